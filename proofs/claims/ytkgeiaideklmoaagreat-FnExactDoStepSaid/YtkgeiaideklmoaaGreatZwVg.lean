/- MergeDecks: the program and the reference. -/
import Derived.Test.YtkgeiaideklmoaaGreatZwSp
import Derived.Test.YtkgeiaideklmoaaGreatZwQh
import Derived.Test.YtkgeiaideklmoaaGreatZwQe
import Derived.Test.YtkgeiaideklmoaaGreatZwC
import Derived.Test.YtkgeiaideklmoaaGreatZwK
import Derived.Test.YtkgeiaideklmoaaGreatVtR
import Derived.Test.YtkgeiaideklmoaaGreatZuR
set_option linter.all false
set_option maxHeartbeats 8000000
namespace Go.Proofs.YtkgeiaideklmoaaGreat
open Go.Vs
section
variable [Vs.Envs]
attribute [local irreducible] Vs.Fn aU aZ iT bL aP bM bP l03 chB rk cd3 chI stp aQ
def pJ (fr to:Int) (l:List (List Int)):List (List Int):=(aU fr to l l.length).map λi=>l.getD i.toNat []
def xR (fr to:Int) (l:List (List Int)):AV:=if aZ fr to l=0 then .sl 1 (E cC (pJ fr to l)) else .v (.slice none 0 0)
theorem aF0 (fr to:Int) (l:List (List Int)):iT fr to [l]=aZ fr to l:=by
 unfold iT aZ;simp only[BJ,DL,Bool.and_true]
theorem yU {fr to:Int}{l:List (List Int)}:∀x,x∈aU fr to l l.length->inO l.length x:=λx F=>vD l.length x F
attribute [local go_sem] cD aH Af Ag Ao Aq Ae Aj Ad Al Ac Ai Ap in
theorem zV (l:List (List Int)) (fr to:Int) (hk:aY l):Fz F.dW [.sl 1 (E cC l),.agg (cFd fr to)] (.tup [xR fr to l,.v (.int .i64 (aZ fr to l))]):=by
 have CC:=qM fr to [l] ⟨by simp,λd hd=>by simp at hd;subst hd;exact hk⟩;rw[aF0] at CC;by_cases h0:aZ fr to l=0
 .obtain⟨hd,hf,ha⟩:=aB3 h0;have ho:=dE hd hf;have h40:=iZ hd;rw[show xR fr to l=.sl 1 (E cC (pJ fr to l)) by simp[xR,h0],h0];have hol:=iR fr to l l.length;have hoi:=yU (fr:=fr) (to:=to) (l:=l);rw[show pJ fr to l=(aU fr to l l.length).map (λi=>l.getD i.toNat []) from rfl];have GO:=aCL l fr to ho (by omega);rw[h0] at CC;generalize aU fr to l l.length=o at *
  refine fn0 Cd.i_FirstOfGroups_k λX=>?_
  repeat' first|simp -dsimp only[go_sem,cC,cFd]|apply Br.mk<;>intro h<;>try simp -dsimp only[h]|refine aB.c (by first|exact CC|exact GO) ?_|refine aC ?_|fail
  refine aM.at dM (X:={zz:Nat×(Unit) // zz.1<=o.length∧True}) (λzz=>[(7,.loc (.t 7 0) 0 zz.1.1),(22,.v (.int .i64 zz.1.1))]) (λzz=>[(.t 7 0,.arr 1 (E cC ((o.take zz.1.1).map λi=>l.getD i.toNat [])) false)]) (λzz=>o.length-zz.1.1) ⟨(0,()),by omega,trivial⟩ ?_ ?_
  .simp[Vs.LeL,Vs.look,aA,aS,aJ,Vs.hset,aK,Vs.E]
  .rintro⟨⟨i,_⟩,hi,hg⟩;dsimp only at hi hg;simp -dsimp only[go_sem,cC,cFd];refine Br.mk (λhc=>?_) λhc=>?_
   .have hlt:i<o.length:=Dq;have hw:=aG hlt (by omega);have hx:=hoi _ (Aa hlt);have gx:=aBm hx;have hm:=nG hx;have hc20:(l.getD o[i].toNat []).length<=20:=(ho _ hm).2.2.2;have NC:=aBY (l.getD o[i].toNat []) (by omega);have x0:=hx.1;have x1:=hx.2
    have hap:E cC ((o.take i).map λi=>l.getD i.toNat [])++[[.sl 1 (E cI (l.getD o[i].toNat []))]]=E cC ((o.take (i+1)).map λi=>l.getD i.toNat []):=by
     rw[aX hlt,Bu,bG];rfl
    have hal:(E cC ((o.take i).map λi=>l.getD i.toNat [])).length=i:=by rw[aH];simp;omega
    repeat' first|simp -dsimp only[go_sem,dI hlt,hw,hap,hal,gx,cC,cFd]|apply Br.mk<;>intro h<;>try simp -dsimp only[h]|refine aB.c (by first|exact NC) ?_|refine aC ?_|fail
    all_goals first|omega|(exact nx (i+1,()) trivial (h2:=by simp[Vs.LeL,Vs.look,aA,aS,aJ,Vs.hset,aK,hap]))
   .have hge:i=o.length:=by
     have:¬i<o.length:=Dq;omega
    subst hge;simp -dsimp only[go_sem,cC,cFd]
    have htk:(E cC ((o.take o.length).map λi=>l.getD i.toNat [])).take o.length=E cC (o.map λi=>l.getD i.toNat []):=by
     rw[Ah (Au o.length)];exact Ah (by rw[aH];simp)
    first|exact⟨⟨_,_,rfl,rfl⟩,λh=>h rfl⟩|(rw[htk];exact⟨⟨_,_,rfl,rfl⟩,λh=>h rfl⟩)|(simp[htk];done)
 .have e0:(aZ fr to l != 0)=true:=by simp[h0]
  rw[show xR fr to l=.v (.slice none 0 0) by simp[xR,h0]];generalize aZ fr to l=c at *
  refine fn0 Cd.i_FirstOfGroups_k λX=>?_
  repeat' first|simp -dsimp only[go_sem,cC,cFd,e0]|apply Br.mk<;>intro h<;>try simp -dsimp only[h]|refine aB.c (by first|exact CC) ?_|refine aC ?_|fail
  all_goals first|exact⟨_,_,rfl,rfl⟩
attribute [local go_sem] cD aH Af Ag Ao Aq Ae Aj Ad Al Ac Ai Ap in
theorem zL (l:List (List Int)) (fr to:Int) (hk:aY l):Fz F.jC [.sl 1 (E cC l),.agg (cFd fr to)] (.tup [xR fr to l,.v (.int .i64 (aZ fr to l))]):=by
 have KS:=jR l fr to hk.2 hk.1;by_cases h0:aZ fr to l=0
 .obtain⟨hd,hf,ha⟩:=aB3 h0;have ho:=dE hd hf;have h40:=iZ hd;rw[show xR fr to l=.sl 1 (E cC (pJ fr to l)) by simp[xR,h0],h0];have hol:=iR fr to l l.length;have hoi:=yU (fr:=fr) (to:=to) (l:=l);rw[show pJ fr to l=(aU fr to l l.length).map (λi=>l.getD i.toNat []) from rfl];have GO:=aDE l fr to ho ha (by omega);rw[show nN fr to l=.sl 1 (E cSt (bR fr to l)) by simp[nN,h0],h0] at KS;generalize aU fr to l l.length=o at *
  refine fn0 Cd.s_FirstOfGroups_k λX=>?_
  repeat' first|simp -dsimp only[go_sem,cC,cFd]|apply Br.mk<;>intro h<;>try simp -dsimp only[h]|refine aB.c (by first|exact KS|exact GO) ?_|refine aC ?_|fail
  refine aM.at dM (X:={zz:Nat×(Unit) // zz.1<=o.length∧True}) (λzz=>[(9,.loc (.t 9 0) 0 zz.1.1),(10,.v (.int .i64 zz.1.1))]) (λzz=>[(.t 9 0,.arr 1 (E cC ((o.take zz.1.1).map λi=>l.getD i.toNat [])) false)]) (λzz=>o.length-zz.1.1) ⟨(0,()),by omega,trivial⟩ ?_ ?_
  .simp[Vs.LeL,Vs.look,aA,aS,aJ,Vs.hset,aK,Vs.E]
  .rintro⟨⟨i,_⟩,hi,hg⟩;dsimp only at hi hg;simp -dsimp only[go_sem,cC,cFd];refine Br.mk (λhc=>?_) λhc=>?_
   .have hlt:i<o.length:=Dq;have hw:=aG hlt (by omega);have hx:=hoi _ (Aa hlt);have gx:=aBm hx;have hm:=nG hx;have hc20:(l.getD o[i].toNat []).length<=20:=(ho _ hm).2.2.2;have NC:=xJ (l.getD o[i].toNat []) (by omega);have x0:=hx.1;have x1:=hx.2
    have hap:E cC ((o.take i).map λi=>l.getD i.toNat [])++[[.sl 1 (E cI (l.getD o[i].toNat []))]]=E cC ((o.take (i+1)).map λi=>l.getD i.toNat []):=by
     rw[aX hlt,Bu,bG];rfl
    have hal:(E cC ((o.take i).map λi=>l.getD i.toNat [])).length=i:=by rw[aH];simp;omega
    repeat' first|simp -dsimp only[go_sem,dI hlt,hw,hap,hal,gx,cC,cFd]|apply Br.mk<;>intro h<;>try simp -dsimp only[h]|refine aB.c (by first|exact NC) ?_|refine aC ?_|fail
    all_goals first|omega|(exact nx (i+1,()) trivial (h2:=by simp[Vs.LeL,Vs.look,aA,aS,aJ,Vs.hset,aK,hap]))
   .have hge:i=o.length:=by
     have:¬i<o.length:=Dq;omega
    subst hge;simp -dsimp only[go_sem,cC,cFd]
    have htk:(E cC ((o.take o.length).map λi=>l.getD i.toNat [])).take o.length=E cC (o.map λi=>l.getD i.toNat []):=by
     rw[Ah (Au o.length)];exact Ah (by rw[aH];simp)
    first|exact⟨⟨_,_,rfl,rfl⟩,λh=>h rfl⟩|(rw[htk];exact⟨⟨_,_,rfl,rfl⟩,λh=>h rfl⟩)|(simp[htk];done)
 .have e0:(aZ fr to l != 0)=true:=by simp[h0]
  rw[show xR fr to l=.v (.slice none 0 0) by simp[xR,h0]];rw[show nN fr to l=.v (.slice none 0 0) by simp[nN,h0]] at KS;generalize aZ fr to l=c at *
  refine fn0 Cd.s_FirstOfGroups_k λX=>?_
  repeat' first|simp -dsimp only[go_sem,cC,cFd,e0]|apply Br.mk<;>intro h<;>try simp -dsimp only[h]|refine aB.c (by first|exact KS) ?_|refine aC ?_|fail
  all_goals first|exact⟨_,_,rfl,rfl⟩
end
section
variable [Vs.Envs]
attribute [local irreducible] Vs.Fn bL aP bM bP l03 chB rk cd3 chI stb dQ
theorem aDr {fr to:Int}{l:List (List Int)}:∀n,aQ fr to l n=[]->∀i,i<n->¬cmF fr to (l.getD (i+1) []) (l.getD i [])<0
 |0,_,i,hi=>by omega
 | n+1,h,i,hi=>by
  rw[aQ] at h;obtain⟨F,h2⟩:=List.append_eq_nil_iff.1 h;by_cases hin:i=n
  .subst hin;intro H;rw[AP H] at h2;cases h2
  .exact aDr n F i (by omega)
theorem aKZ {fr to:Int}{l:List (List Int)} (h:gM fr to l=true):∀i,i+1<l.length->¬cmF fr to (l.getD (i+1) []) (l.getD i [])<0:=by
 intro i hi
 have h0:stp fr to l=[]:=by
  unfold gM at h;have:=BO.1 h;exact Bv (by omega)
 exact aDr (l.length-1) h0 i (by omega)
def skp (cf:Int->Int->Int) (na:Nat) (i:Nat):Nat->Nat->Nat
 |0,k=>k
 |m+1,k=>if cf ((na+k:Nat):Int) (i:Int)<0 then skp cf na i m (k+1) else k
def mgK (cf:Int->Int->Int) (na nb:Nat):Nat->Nat
 |0=>0
 |i+1=>skp cf na i (nb-mgK cf na nb i) (mgK cf na nb i)
def rng (a n:Nat):List Int:=(List.range' a n).map λj:Nat=>(j:Int)
def mgI (cf:Int->Int->Int) (na nb:Nat):Nat->List Int
 |0=>[]
 |i+1=>mgI cf na nb i++rng (na+mgK cf na nb i) (mgK cf na nb (i+1)-mgK cf na nb i)++[(i:Int)]
def mgF (cf:Int->Int->Int) (na nb:Nat):List Int:=mgI cf na nb na++rng (na+mgK cf na nb na) (nb-mgK cf na nb na)
theorem aJN (a:Nat):rng a 0=[]:=rfl
theorem aFa (a n:Nat):rng a (n+1)=rng a n++[((a+n:Nat):Int)]:=by
 simp[rng,List.range'_concat]
theorem yG (a n:Nat):(rng a n).length=n:=by simp[rng]
theorem aHt {a n:Nat}{x:Int} (h:x∈rng a n):∃j,a<=j∧j<a+n∧x=(j:Int):=by
 obtain⟨j,H,rfl⟩:=Bq.1 h;obtain⟨F,h2⟩:=Dw.1 H;exact⟨j,F,h2,rfl⟩
theorem aEj (a m n:Nat):rng a m++rng (a+m) n=rng a (m+n):=by
 simp[rng,←Bu,List.range'_append]
theorem aJF {cf:Int->Int->Int}{na i nb k:Nat} (h:k<nb):skp cf na i (nb-k) k=if cf ((na+k:Nat):Int) (i:Int)<0 then skp cf na i (nb-(k+1)) (k+1) else k:=by
 rw[show nb-k=(nb-(k+1))+1 by omega,skp]
theorem aJE {cf:Int->Int->Int}{na i nb k:Nat} (h:¬k<nb):skp cf na i (nb-k) k=k:=by
 rw[show nb-k=0 by omega,skp]
theorem aGt (cf:Int->Int->Int) (na i:Nat):∀m k,k<=skp cf na i m k∧skp cf na i m k<=k+m
 |0,k=>by simp[skp]
 | m+1,k=>by
  rw[skp];split
  .have:=aGt cf na i m (k+1);omega
  .omega
theorem aJG (cf:Int->Int->Int) (na i:Nat):∀m k j,k<=j->j<skp cf na i m k->cf ((na+j:Nat):Int) (i:Int)<0
 |0,k,j,h1,h2=>by rw[skp] at h2;omega
 | m+1,k,j,h1,h2=>by
  rw[skp] at h2;split at h2
  .rename_i F;by_cases H:j=k
   .subst H;exact F
   .exact aJG cf na i m (k+1) j (by omega) h2
  .omega
theorem aJH (cf:Int->Int->Int) (na i:Nat):∀m k,skp cf na i m k<k+m->¬cf ((na+skp cf na i m k:Nat):Int) (i:Int)<0
 |0,k,h=>by rw[skp] at h;omega
 | m+1,k,h=>by
  rw[skp] at h⊢;split at h
  .rename_i F;rw[AP F];exact aJH cf na i m (k+1) (by omega)
  .rename_i F;rw[AC F];exact F
theorem vR (cf:Int->Int->Int) (na nb:Nat):∀i,mgK cf na nb i<=nb
 |0=>Nat.zero_le _
 | i+1=>by
  have h:=vR cf na nb i;have:=aGt cf na i (nb-mgK cf na nb i) (mgK cf na nb i);rw[mgK];omega
theorem aEq (cf:Int->Int->Int) (na nb i:Nat):mgK cf na nb i<=mgK cf na nb (i+1):=by
 rw[mgK];exact(aGt cf na i _ _).1
theorem aBZ (cf:Int->Int->Int) (na nb:Nat):∀i,(mgI cf na nb i).length=i+mgK cf na nb i
 |0=>rfl
 | i+1=>by
  have:=aBZ cf na nb i;have h2:=aEq cf na nb i;rw[mgI];simp only[AX,Cf,yG,this];omega
theorem aFm (cf:Int->Int->Int) (na nb:Nat):∀i,(mgI cf na nb i).Perm (rng 0 i++rng na (mgK cf na nb i))
 |0=>by simp[mgI,mgK,rng]
 | i+1=>by
  have F:=aFm cf na nb i;have h2:=aEq cf na nb i;rw[mgI,aFa]
  have e:rng na (mgK cf na nb (i+1))=rng na (mgK cf na nb i)++rng (na+mgK cf na nb i) (mgK cf na nb (i+1)-mgK cf na nb i):=by
   rw[aEj];congr 1;omega
  rw[e];generalize rng (na+mgK cf na nb i) (mgK cf na nb (i+1)-mgK cf na nb i)=r at *
  generalize rng na (mgK cf na nb i)=q at *
  generalize rng 0 i=p at *
  generalize mgI cf na nb i=o at *
  rw[Ca]
  calc o++r++[(i:Int)] |>.Perm (p++q++r++[(i:Int)]):=CV _ (CV _ F)
   _ |>.Perm (p++((q++r)++[(i:Int)])):=by rw[Bz,Bz,Bz]
   _ |>.Perm (p++([(i:Int)]++(q++r))):=List.Perm.append_left _ List.perm_append_comm
   _ |>.Perm (p++[(i:Int)]++(q++r)):=by rw[Bz]
theorem aKq (n:Nat):iota n=rng 0 n:=by simp[iota,rng,DI]
theorem aFn (cf:Int->Int->Int) (na nb:Nat):(mgF cf na nb).Perm (iota (na+nb)):=by
 have I:=aFm cf na nb na;have h2:=vR cf na nb na;unfold mgF;rw[aKq]
 have e:rng 0 (na+nb)=rng 0 na++rng na (mgK cf na nb na)++rng (na+mgK cf na nb na) (nb-mgK cf na nb na):=by
  have F:=aEj 0 na (mgK cf na nb na);have H:=aEj 0 (na+mgK cf na nb na) (nb-mgK cf na nb na);rw[Ca] at F H;rw[F,H];congr 1;omega
 rw[e];exact CV _ I
theorem aLO (cf:Int->Int->Int) (na nb:Nat):(mgF cf na nb).length=na+nb:=by rw[(aFn cf na nb).length_eq,sQ]
section
variable {cf:Int->Int->Int}{R:Int->Int->Prop}{na nb:Nat} (htr:∀x y z,R x y->R y z->R x z)
 (hlt:∀i j:Nat,i<na->j<nb->cf ((na+j:Nat):Int) (i:Int)<0->R ((na+j:Nat):Int) (i:Int))
 (hge:∀i j:Nat,i<na->j<nb->¬cf ((na+j:Nat):Int) (i:Int)<0->R (i:Int) ((na+j:Nat):Int))
 (hA:∀i j:Nat,i<j->j<na->R (i:Int) (j:Int)) (hB:∀i j:Nat,i<j->j<nb->R ((na+i:Nat):Int) ((na+j:Nat):Int))
include htr hlt hge hA hB
theorem aHG:∀i,i<=na->(mgI cf na nb i).Pairwise R∧(∀x,x∈mgI cf na nb i->∀j:Nat,i<=j->j<na->R x (j:Int))∧(∀x,x∈mgI cf na nb i->∀j:Nat,mgK cf na nb i<=j->j<nb->R x ((na+j:Nat):Int))
 |0,_=>⟨List.Pairwise.nil,λx F=>(by cases F),λx F=>(by cases F)⟩
 | i+1,hi=>by
  obtain⟨h1,h2,h3⟩:=aHG i (by omega);have hk:=aEq cf na nb i;have hg:=vR cf na nb (i+1);have hf:=vR cf na nb i;have Z:∀j,mgK cf na nb i<=j->j<mgK cf na nb (i+1)->cf ((na+j:Nat):Int) (i:Int)<0:=λj a b=>aJG cf na i _ _ j a (by rw[mgK] at b;exact b)
  have hc:mgK cf na nb (i+1)<nb->¬cf ((na+mgK cf na nb (i+1):Nat):Int) (i:Int)<0:=λh=>by
   have:=aJH cf na i (nb-mgK cf na nb i) (mgK cf na nb i);rw[mgK] at h⊢;exact this (by omega)
  rw[mgI];generalize hK:mgK cf na nb i=k at *
  generalize hd:mgK cf na nb (i+1)=k' at *
  have Y:∀x,x∈rng (na+k) (k'-k)->∃j,k<=j∧j<k'∧x=((na+j:Nat):Int):=λx F=>by
   obtain⟨j,a,b,rfl⟩:=aHt F;exact⟨j-na,by omega,by omega,by congr 1;omega⟩
  have I:∀x,x∈rng (na+k) (k'-k)->R x (i:Int):=λx F=>by
   obtain⟨j,a,b,rfl⟩:=Y x F;exact hlt i j (by omega) (by omega) (Z j a b)
  have H:∀j:Nat,i<j->j<na->R (i:Int) (j:Int):=λj a b=>hA i j a b
  have L:∀j:Nat,k'<=j->j<nb->R (i:Int) ((na+j:Nat):Int):=λj a b=>by
   have h0:=hge i k' (by omega) (by omega) (hc (by omega));by_cases hj:j=k'
   .subst hj;exact h0
   .exact htr _ _ _ h0 (hB k' j (by omega) b)
  have O:∀x,x∈mgI cf na nb i->R x (i:Int):=λx F=>h2 x F i (Au _) (by omega)
  have U:∀x,x∈mgI cf na nb i->∀y,y∈rng (na+k) (k'-k)->R x y:=λx F y J=>by
   obtain⟨j,a,b,rfl⟩:=Y y J;exact h3 x F j a (by omega)
  refine⟨?_,?_,?_⟩
  .rw[Bo,Bo];refine⟨⟨h1,?_,U⟩,List.pairwise_singleton _ _,λx F y J=>?_⟩
   .unfold rng;rw[List.pairwise_map];refine List.Pairwise.imp_of_mem (R:=λa b=>a<b) ?_ List.pairwise_lt_range';intro a b ha hb he;obtain⟨a1,a2⟩:=Dw.1 ha;obtain⟨b1,b2⟩:=Dw.1 hb;have:=hB (a-na) (b-na) (by omega) (by omega)
    rwa [show na+(a-na)=a by omega,show na+(b-na)=b by omega] at this
   .rw[Av] at J;subst J;rcases Bg.1 F with F|F
    .exact O x F
    .exact I x F
  .intro x F j a b;rcases Bg.1 F with F|F
   .rcases Bg.1 F with F|F
    .exact h2 x F j (by omega) b
    .exact htr _ _ _ (I x F) (H j (by omega) b)
   .rw[Av] at F;subst F;exact H j (by omega) b
  .intro x F j a b;rcases Bg.1 F with F|F
   .rcases Bg.1 F with F|F
    .exact h3 x F j (by omega) b
    .obtain⟨j',a',b',rfl⟩:=Y x F;exact hB j' j (by omega) b
   .rw[Av] at F;subst F;exact L j a b
theorem aLN:(mgF cf na nb).Pairwise R:=by
 obtain⟨F,h2,H⟩:=aHG htr hlt hge hA hB na (Au _);unfold mgF;rw[Bo];refine⟨F,?_,λx U y Y=>?_⟩
 .unfold rng;rw[List.pairwise_map];refine List.Pairwise.imp_of_mem (R:=λa b=>a<b) ?_ List.pairwise_lt_range';intro a b I L J;obtain⟨Z,a2⟩:=Dw.1 I;obtain⟨b1,b2⟩:=Dw.1 L;have O:=vR cf na nb na;have:=hB (a-na) (b-na) (by omega) (by omega)
  rwa [show na+(a-na)=a by omega,show na+(b-na)=b by omega] at this
 .obtain⟨j,a,b,rfl⟩:=aHt Y;have O:=vR cf na nb na;have:=H x U (j-na) (by omega) (by omega)
  rwa [show na+(j-na)=j by omega] at this
end
theorem aJX {R:Nat->Nat->Prop} (htr:∀x y z,R x y->R y z->R x z) {n:Nat} (h:∀i,i+1<n->R i (i+1)):∀i j,i<j->j<n->R i j:=by
 intro i j H F;obtain⟨d,rfl⟩:∃d,j=i+1+d:=⟨j-(i+1),by omega⟩
 induction d with
 |zero=>exact h i F
 |succ d ih=>exact htr _ _ _ (ih (by omega) (by omega)) (h (i+1+d) F)
theorem aH6 {a b:List (List Int)}{i:Nat} (h:i<a.length):(a++b).getD i []=a.getD i []:=by simp[List.getD,BC h]
theorem aH5 {a b:List (List Int)} (j:Nat):(a++b).getD (a.length+j) []=b.getD j []:=by
 simp only[List.getD];rw[Bi (by omega),Nat.add_sub_cancel_left]
theorem aM3 {fr to:Int}{a b:List (List Int)} (F:∀c,c∈a++b->okF fr to c) (hl:a.length+b.length<=40) (U:gM fr to a=true) (Y:gM fr to b=true) :
  mgF (cfO fr to (a++b)) a.length b.length=dQ fr to (a++b):=by
 have I:(a++b).length=a.length+b.length:=by simp
 obtain⟨O,h2⟩:=aCv F (by omega);rw[I] at O;have hin:∀i:Nat,i<a.length+b.length->inO (a++b).length (i:Int):=λi hi=>⟨by omega,by omega⟩
 have H:∀i j:Nat,i<j->j<a.length+b.length->¬cfO fr to (a++b) (j:Int) (i:Int)<0->xD fr to (a++b) (i:Int) (j:Int):=by
  intro i j Z L J;have e:=aB9 F (hin i (by omega)) (hin j L);refine⟨⟨hin i (by omega),hin j L⟩,?_⟩;by_cases h0:cfO fr to (a++b) (i:Int) (j:Int)=0
  .exact .inr ⟨h0,by omega⟩
  .exact .inl (by omega)
 have hA:∀i j:Nat,i<j->j<a.length->xD fr to (a++b) (i:Int) (j:Int):=by
  refine aJX (R:=λi j=>xD fr to (a++b) (i:Int) (j:Int)) (λx y z=>l9 F _ _ _) λi hi=>?_;refine H i (i+1) (by omega) (by omega) ?_;have:=aKZ U i hi;unfold cfO;rw[BR,BR,aH6 hi,aH6 (by omega)];exact this
 have hB:∀i j:Nat,i<j->j<b.length->xD fr to (a++b) ((a.length+i:Nat):Int) ((a.length+j:Nat):Int):=by
  refine aJX (R:=λi j=>xD fr to (a++b) ((a.length+i:Nat):Int) ((a.length+j:Nat):Int)) (λx y z=>l9 F _ _ _) λi hi=>?_;refine H _ _ (by omega) (by omega) ?_;have:=aKZ Y i hi;unfold cfO;rw[BR,BR,aH5,aH5];exact this
 refine aEd (l9 F) (aA5 F) ((aFn _ _ _).trans O.symm) (aLN (l9 F) (λi j hi L J=>?_) (λi j hi L J=>?_) hA hB) h2
 .exact⟨⟨hin _ (by omega),hin _ (by omega)⟩,.inl J⟩
 .exact H i _ (by omega) (by omega) J
end
section
variable [Vs.Envs]
attribute [local irreducible] Vs.Fn bL aP bM bP l03 chB rk cd3 chI stp aQ
def fJ (fr to:Int) (l:List (List Int)):Int:=l.foldl (λa c=>IntKind.i64.wrap (a+(lJ fr to c).1)) 0
def uF (fr to:Int) (l:List (List Int)):Bool:=l.all λc=>(lJ fr to c).2
theorem aIk {fr to:Int}{l:List (List Int)}{i:Nat} (h:i<l.length):fJ fr to (l.take (i+1))=IntKind.i64.wrap (fJ fr to (l.take i)+(lJ fr to l[i]).1):=by
 unfold fJ;rw[aX h,List.foldl_append];rfl
def aAi (fr to:Int) (l:List (List Int)):AV:=if uF fr to l then .sl 1 (E cI [fJ fr to l]) else .v (.slice none 0 0)
attribute [local irreducible] fJ lJ
attribute [local go_sem] cFd aH Af Ag Ao Aq Ae Aj Ad Al Ac Ai Ap Ar in
theorem aEc (l:List (List Int)) (fr to:Int) (ho:∀c,c∈l->okP fr to c) (hl:l.length<=1048576):Fz F.uX [.sl 2 [[.v (.int .i64 fr),.v (.int .i64 to)]],.sl 1 (E cC l)] (.tup [aAi fr to l,.v (.bool (uF fr to l))]):=by
 refine fn0 Cd.i_sumsOf_k λX=>?_
 repeat' first|simp -dsimp only[go_sem,cC]|apply Br.mk<;>intro h<;>try simp -dsimp only[h]|refine aC ?_|fail
 refine aM.at dM (X:={zz:Nat×(Unit) // zz.1<=1∧(zz.1=1->uF fr to l=true)}) (λzz=>[(6,.loc (.t 6 0) 0 zz.1.1),(17,.v (.int .i64 zz.1.1))]) (λzz=>[(.t 6 0,.arr 1 (E cI ([fJ fr to l].take zz.1.1)) false)]) (λzz=>1-zz.1.1) ⟨(0,()),by omega,by intro h;cases h⟩ ?_ ?_
 .simp[Vs.LeL,Vs.look,aA,aS,aJ,Vs.hset,aK,Vs.E]
 .rintro⟨⟨i,_⟩,hi,hg⟩;dsimp only at hi hg;simp -dsimp only[go_sem,cC];refine Br.mk (λhc=>?_) λhc=>?_
  .have hlt:i<1:=Dq;have hw:=aG hlt (by omega);obtain rfl:i=0:=by omega
   repeat' first|simp -dsimp only[go_sem,cC]|apply Br.mk<;>intro h<;>try simp -dsimp only[h]|refine aC ?_|fail
   refine aM.at dM (X:={zz:Nat×(Unit) // zz.1<=l.length∧(l.take zz.1).all (λc=>(lJ fr to c).2)=true}) (λzz=>[(9,.v (.int .i64 (fJ fr to (l.take zz.1.1)))),(23,.v (.int .i64 zz.1.1))]) (λzz=>[]) (λzz=>l.length-zz.1.1) ⟨(0,()),by omega,by simp⟩ ?_ ?_
   .simp[Vs.LeL,Vs.look,aA,aS,aJ,Vs.hset,aK,fJ]
   .rintro⟨⟨i,_⟩,hi,hg⟩;dsimp only at hi hg;simp -dsimp only[go_sem,cC];refine Br.mk (λhc=>?_) λhc=>?_
    .have hlt:i<l.length:=Dq;have hw:=aG hlt hl;have hm:(E cC l).getD i []=[.sl 1 (E cI l[i])]:=aN hlt;have NI:=aIx (ho _ (Aa hlt));have hss:=aIk (fr:=fr) (to:=to) hlt;cases hb:(lJ fr to l[i]).2
     .rw[hb] at NI;have hna:uF fr to l=false:=gU (p:=λc=>(lJ fr to c).2) hlt hb;have hv:aAi fr to l=.v (.slice none 0 0):=by simp[aAi,hna]
      repeat' first|simp -dsimp only[go_sem,hm,hw,cC]|apply Br.mk<;>intro h<;>try simp -dsimp only[h]|refine aB.c (by first|exact NI) ?_|refine aC ?_|fail
      all_goals first|omega|(rw[hv,hna];exact⟨_,_,rfl,rfl⟩)|(simp[hv,hna];done)
     .rw[hb] at NI;simp -dsimp only[go_sem,hm,hw,cC]
      repeat' first|simp -dsimp only[go_sem,hm,hw,←hss,cC]|apply Br.mk<;>intro h<;>try simp -dsimp only[h]|refine aB.c (by first|exact NI) ?_|refine aC ?_|fail
      all_goals first|omega|(exact nx (i+1,()) (bD (p:=λc=>(lJ fr to c).2) hlt hg hb) (h2:=by simp[Vs.LeL,Vs.look,aA,aS,aJ,Vs.hset,aK,hss]))
    .have hge:i=l.length:=by
      have:¬i<l.length:=Dq;omega
     subst hge;simp -dsimp only[go_sem,cC];have hall:uF fr to l=true:=by simpa[uF] using hg
     have e01:IntKind.i64.wrap 1=1:=rfl;have hfull:l.take l.length=l:=Ah (Au _);refine⟨⟨by decide,by decide,?_⟩,λh=>absurd rfl h⟩;exact⟨⟨(1,()),⟨by omega,λ_=>hall⟩⟩,by simp[Vs.LeL,Vs.look,aA,aS,aJ,Vs.hset,aK,hfull,e01,Vs.E,cI],by simp only;omega⟩
  .have hge:i=1:=by
    have:¬i<1:=Dq;omega
   subst hge;simp -dsimp only[go_sem,cC];have hall:=hg rfl;rw[hall,show aAi fr to l=.sl 1 (E cI [fJ fr to l]) by simp[aAi,hall]];exact⟨⟨_,_,rfl,rfl⟩,λh=>h rfl⟩
end
section
variable [Vs.Envs]
attribute [local irreducible] Vs.Fn fJ lJ fG aU bL aP bM bP l03 chB rk cd3 chI stp aQ
theorem aDO (a:List Int) (fr to:Int) (H:okF fr to a) (I:dB (fH fr to a)=true):Fz F.qH [.agg (cC a),.agg (cFd fr to)] (.v (.string (txt (fH fr to a)))):=by
 refine fn0 Cd.i_fieldText_k λX=>?_
 repeat' first|simp -dsimp only[go_sem,cC,cFd,fH_E,Af,Ag,Ao,Aq,Ae,Aj,Ad,Al,Ac,Ai,Ap,Ar]|apply Br.mk<;>intro h<;>try simp -dsimp only[h]|refine RgK.mk rfl ?_|refine aB.c (by first|exact textOf _ (aAN H) I) ?_|refine And.intro (by first|rfl|omega|decide|exact bZ H|exact bZ hb|exact⟨rfl,bZ H⟩|exact⟨rfl,bZ hb⟩|exact bB H|exact bB hb|exact⟨rfl,bB H⟩|exact⟨rfl,bB hb⟩|(refine⟨?_,?_⟩<;>(first|rfl|omega|decide|exact bZ H|exact bZ hb|exact⟨rfl,bZ H⟩|exact⟨rfl,bZ hb⟩|exact bB H|exact bB hb|exact⟨rfl,bB H⟩|exact⟨rfl,bB hb⟩))|(refine⟨?_,?_,?_⟩<;>(first|rfl|omega|decide|exact bZ H|exact bZ hb|exact⟨rfl,bZ H⟩|exact⟨rfl,bZ hb⟩|exact bB H|exact bB hb|exact⟨rfl,bB H⟩|exact⟨rfl,bB hb⟩))|(refine⟨?_,?_,?_,?_⟩<;>(first|rfl|omega|decide|exact bZ H|exact bZ hb|exact⟨rfl,bZ H⟩|exact⟨rfl,bZ hb⟩|exact bB H|exact bB hb|exact⟨rfl,bB H⟩|exact⟨rfl,bB hb⟩))) ?_|fail
 all_goals(simp_all)
theorem aCJ {fr to:Int}{l:List (List Int)}{g:List (List Int)} (h:g∈aAL fr to l):0<g.length∧g.length<=l.length∧∀c,c∈g->c∈l:=by
 unfold aAL at h;obtain⟨i,hi,rfl⟩:=Bq.1 h;have hi:=Co.1 hi;have hin:=vD (fr:=fr) (to:=to) (l:=l) l.length;have H:=aAK (fr:=fr) (to:=to) (l:=l) l.length;generalize aU fr to l l.length=s at *
 have h0:=hin _ (Aa hi);have e:s.getD i 0=s[i]:=by simp[List.getD,hi]
 unfold fG;rw[e];refine⟨?_,?_,λc J=>CE (CZ J)⟩
 .rw[Cg,BM];split
  .rename_i F;have L:=hin _ (Aa F);have I:s[i]<s[i+1]:=Dg.1 H i (i+1) hi F (by omega);rw[show s.getD (i+1) 0=s[i+1] by simp[List.getD,F]];omega
  .omega
 .rw[Cg,BM];omega
theorem aCK (fr to:Int) (l:List (List Int)):(aAL fr to l).length<=l.length:=by
 unfold aAL;rw[Bh,List.length_range];exact iR fr to l l.length
def cTt (t:ByteArray×Int):List AV:=[.v (.string t.1),.v (.int .i64 t.2)]
def kS (fr to sf st:Int) (l:List (List Int)):List (ByteArray×Int):=(aAL fr to l).map λg=>(txt (fH fr to (g.getD 0 [])),fJ sf st g)
def jS (fr to sf st:Int) (l:List (List Int)):Bool:=uF sf st l&&bU fr to l
def wL (fr to sf st:Int) (l:List (List Int)):AV:=if jS fr to sf st l then .sl 2 (E cTt (kS fr to sf st l)) else .v (.slice none 0 0)
attribute [local irreducible] aAL
attribute [local go_sem] aH Af Ag Ao Aq Ae Aj Ad Al Ac Ai Ap Ar cD Av Vs.Name.t.injEq Am Ak AR BQ in
theorem aJd (l:List (List Int)) (fr to sf st:Int) (ho:∀c,c∈l->okF fr to c) (hp:∀c,c∈l->okP sf st c) (hl:l.length<=1048576):Fz F.mG [.sl 1 (E cC l),.agg (cFd fr to),.agg (cFd sf st)] (.tup [wL fr to sf st l,.v (.int .i64 (if jS fr to sf st l then 0 else 8))]):=by
 have SO:=aEc l sf st hp hl;have HF:=pI l fr to ho hl;have GR:=groups l fr to ho hl;cases hN:uF sf st l
 .rw[hN] at SO;have hb:jS fr to sf st l=false:=by simp[jS,hN]
  rw[show wL fr to sf st l=.v (.slice none 0 0) by simp[wL,hb],hb];refine fn0 Cd.i_totalsOf_k λX=>?_
  repeat' first|simp -dsimp only[go_sem,cC,cFd]|apply Br.mk<;>intro h<;>try simp -dsimp only[h]|refine aB.c (by first|exact SO|exact HF) ?_|refine aC ?_|fail
  all_goals first|exact⟨_,_,rfl,rfl⟩|simp
 rw[hN] at SO;cases hC:bU fr to l
 .rw[hC] at HF;have hb:jS fr to sf st l=false:=by simp[jS,hC]
  rw[show wL fr to sf st l=.v (.slice none 0 0) by simp[wL,hb],hb];refine fn0 Cd.i_totalsOf_k λX=>?_
  repeat' first|simp -dsimp only[go_sem,cC,cFd]|apply Br.mk<;>intro h<;>try simp -dsimp only[h]|refine aB.c (by first|exact SO|exact HF) ?_|refine aC ?_|fail
  all_goals first|exact⟨_,_,rfl,rfl⟩|simp
 rw[hC] at HF;have hb:jS fr to sf st l=true:=by simp[jS,hN,hC]
 rw[show wL fr to sf st l=.sl 2 (E cTt (kS fr to sf st l)) by simp[wL,hb],hb];have hgm:∀g,g∈aAL fr to l->0<g.length∧g.length<=l.length∧∀c,c∈g->c∈l:=λg hg=>aCJ hg;have hGl:=aCK fr to l;unfold kS;generalize aAL fr to l=G at *
 refine fn0 Cd.i_totalsOf_k λX=>?_
 repeat' first|simp -dsimp only[go_sem,cC,cFd]|apply Br.mk<;>intro h<;>try simp -dsimp only[h]|refine aB.c (by first|exact SO|exact HF|exact GR) ?_|refine aC ?_|fail
 refine aM.at dM (X:={zz:Nat×(Unit) // zz.1<=G.length∧True}) (λzz=>[(10,.loc (.t 10 0) 0 zz.1.1),(35,.v (.int .i64 zz.1.1))]) (λzz=>[(.t 10 0,.arr 2 (E cTt ((G.take zz.1.1).map λg=>(txt (fH fr to (g.getD 0 [])),fJ sf st g))) false)]) (λzz=>G.length-zz.1.1) ⟨(0,()),by omega,trivial⟩ ?_ ?_
 .simp[Vs.LeL,Vs.look,aA,aS,aJ,Vs.hset,aK,Vs.E]
 .rintro⟨⟨i,_⟩,hi,hg⟩;dsimp only at hi hg;simp -dsimp only[go_sem,cC,cFd];refine Br.mk (λhc=>?_) λhc=>?_
  .have hlt:i<G.length:=Dq;have hw:=aG hlt (by omega);obtain⟨g0,g1,g2⟩:=hgm _ (Aa hlt);have hgi:(E cD G).getD i []=[.sl 1 (E cC G[i])]:=aN hlt;have SG:=aEc G[i] sf st (λc hc=>hp c (g2 c hc)) (by omega);have hNg:uF sf st G[i]=true:=Az.2 λc hc=>Az.1 hN c (g2 c hc);rw[show aAi sf st G[i]=.sl 1 (E cI [fJ sf st G[i]]) by simp[aAi,hNg],hNg] at SG;have hm0:G[i].getD 0 []∈G[i]:=by rw[show G[i].getD 0 []=G[i][0] by simp[List.getD,g0]];exact Aa g0
   have hg0:(E cC G[i]).getD 0 []=[.sl 1 (E cI (G[i].getD 0 []))]:=by rw[aN g0];simp[cC,List.getD,g0]
   have FT:=aDO (G[i].getD 0 []) fr to (ho _ (g2 _ hm0)) (Az.1 hC _ (g2 _ hm0));have hs0:(E cI [fJ sf st G[i]]).getD 0 []=[.v (.int .i64 (fJ sf st G[i]))]:=rfl
   have hap:E cTt ((G.take i).map λg=>(txt (fH fr to (g.getD 0 [])),fJ sf st g))++[[.v (.string (txt (fH fr to (G[i].getD 0 [])))),.v (.int .i64 (fJ sf st G[i]))]]=E cTt ((G.take (i+1)).map λg=>(txt (fH fr to (g.getD 0 [])),fJ sf st g)):=by
    rw[aX hlt,Bu,bG];rfl
   have hal:(E cTt ((G.take i).map λg=>(txt (fH fr to (g.getD 0 [])),fJ sf st g))).length=i:=by rw[aH];simp;omega
   simp -dsimp only[go_sem,hgi,hg0,hs0,hw,hal,cC,cFd]
   repeat' first|simp -dsimp only[go_sem,hgi,hg0,hs0,hw,hap,hal,cC,cFd]|apply Br.mk<;>intro h<;>try simp -dsimp only[h]|refine aB.c (by first|exact SG|exact FT) ?_|refine aC ?_|fail
   all_goals first|omega|(exact nx (i+1,()) trivial (h2:=by simp[Vs.LeL,Vs.look,aA,aS,aJ,Vs.hset,aK,hap]))
  .have hge:i=G.length:=by
    have:¬i<G.length:=Dq;omega
   subst hge;simp -dsimp only[go_sem,cC,cFd]
   have htk:(E cTt ((G.take G.length).map λg=>(txt (fH fr to (g.getD 0 [])),fJ sf st g))).take G.length=E cTt (G.map λg=>(txt (fH fr to (g.getD 0 [])),fJ sf st g)):=by
    rw[Ah (Au G.length)];exact Ah (by rw[aH];simp)
   first|exact⟨⟨_,_,rfl,rfl⟩,λh=>h rfl⟩|(rw[htk];exact⟨⟨_,_,rfl,rfl⟩,λh=>h rfl⟩)|(simp[htk];done)
end
section
variable [Vs.Envs]
attribute [local irreducible] Vs.Fn bL aP bM bP l03 chB rk cd3 chI stp aQ
theorem aNm (w:Nat) (I:w<=1000):Vs.Fn Tryz.prog F.yR [] [.v (.int .i64 w)] (.agg [.loc (.b 0) 0 w]) [some (.arr 1 (List.replicate w [.v (.int .i64 0)]) false)]:=by
 have H:((w:Int)).toNat=w:=by omega
 refine fn1 Cd.i_blank_k [.t 4 0] [.arr 1 (List.replicate w [.v (.int .i64 0)]) false] λX=>?_;unfold Cd.yR
 repeat' first|simp -dsimp only[go_sem,aH,Ad,Al,Ac,Ai,Ap,List.length_replicate,BF,BG,lX,rV,lK,Ar,Be,Aj,Ae,H]|apply Br.mk<;>intro h<;>try simp -dsimp only[h]|refine aC ?_|fail
 all_goals first|exact⟨_,_,rfl,rfl⟩
def bcd (s:ByteArray):List Int:=s.data.toList.map λb=>cd3 (b.toNat:Int)
def pY (s:ByteArray) (w i:Nat):List Int:=(bcd s).take i++List.replicate (w-i) 0
def pun (s:ByteArray) (w:Nat):List Int:=bcd s++List.replicate (w-s.size) 0
theorem aCa (s:ByteArray):(bcd s).length=s.size:=by simp[bcd]
theorem aGy (s:ByteArray) (w:Nat):E cI (pY s w 0)=List.replicate w [.v (.int .i64 0)]:=by simp[pY,E,cI]
theorem aCr (s:ByteArray) (w:Nat):pY s w s.size=pun s w:=by
 unfold pY pun;rw[Ah (by rw[aCa];exact Au _)]
theorem yI {s:ByteArray}{w i:Nat} (h:i<=s.size) (F:s.size<=w):(pY s w i).length=w:=by
 have:=aCa s;simp[pY];omega
theorem aIw {s:ByteArray}{w i:Nat} (h:i<s.size) (O:s.size<=w):(E cI (pY s w i)).set i [.v (.int .i64 (cd3 ((s.data.toList.getD i 0).toNat:Int)))]=E cI (pY s w (i+1)):=by
 have L:=aCa s;have F:i<(bcd s).length:=by omega
 have hA:((bcd s).take i).length=i:=by simp;omega
 have J:(bcd s)[i]=cd3 ((s.data.toList.getD i 0).toNat:Int):=by
  have H:i<s.data.toList.length:=by simpa[bcd] using F
  have I:s.data.toList.getD i 0=s.data.toList[i]:=by rw[A8,Ba H];rfl
  rw[I];simp[bcd]
 have e:(pY s w i).set i (cd3 ((s.data.toList.getD i 0).toNat:Int))=pY s w (i+1):=by
  unfold pY;rw[show w-i=(w-(i+1))+1 by omega,Af,List.set_append,AC (by omega),hA,Cw,Ad,aX F,J];simp
 rw[←e];simp[E,Dc,cI]
attribute [local irreducible] pY
attribute [local go_sem] aH Ad Al Ac Ai Ap List.length_replicate BF BG lX rV lK Ar Be Aj Ae in
theorem aIv (s:ByteArray) (w:Nat) (hw:w<=1000) (hs:s.size<=w):Fz F.qG [.v (.string s),.v (.int .i64 w)] (.agg [.sl 1 (E cI (pun s w))]):=by
 have BL:=aNm w hw;refine fn0 Cd.i_punchText_k λX=>?_;simp -dsimp only[go_sem];refine aB.own BL rfl ?_
 repeat' first|simp -dsimp only[go_sem]|apply Br.mk<;>intro h<;>try simp -dsimp only[h]|refine aC ?_|fail
 refine aM.at dM (X:={zz:Nat×(Unit) // zz.1<=s.size∧True}) (λzz=>[(6,.v (.int .i64 zz.1.1))]) (λzz=>[(.t 8 0,.arr 1 (E cI (pY s w zz.1.1)) false)]) (λzz=>s.size-zz.1.1) ⟨(0,()),by omega,trivial⟩ ?_ ?_
 .simp[Vs.LeL,Vs.look,aA,aS,aJ,Vs.hset,aK,aGy]
 .rintro⟨⟨i,_⟩,hi,hg⟩;dsimp only at hi hg;simp -dsimp only[go_sem];refine Br.mk (λhc=>?_) λhc=>?_
  .have hlt:i<s.size:=Dq;have hw:=aG hlt (by omega);have hps:=aIw (w:=w) hlt hs;have hpl:(E cI (pY s w i)).length=w:=by rw[aH];exact yI (by omega) hs
   have CO:=codeOf ((s.data.toList.getD i 0).toNat:Int)
   have hrow:∃y,(E cI (pY s w i)).getD i []=[y]:=by
    have hil:i<(pY s w i).length:=by rw[yI (by omega) hs];omega
    exact⟨.v (.int .i64 (pY s w i)[i]),by rw[aN hil];rfl⟩
   obtain⟨y,hy⟩:=hrow
   repeat' first|simp -dsimp only[go_sem,hw,hps,hpl,hy]|apply Br.mk<;>intro h<;>try simp -dsimp only[h]|refine aB.c (by first|exact CO) ?_|refine aC ?_|fail
   all_goals first|omega|(exact nx (i+1,()) trivial (h2:=by simp[Vs.LeL,Vs.look,aA,aS,aJ,Vs.hset,aK,hps]))
  .have hge:i=s.size:=by
    have:¬i<s.size:=Dq;omega
   subst hge;simp -dsimp only[go_sem];have hpf:=aCr s w;have hpl:(E cI (pun s w)).length=w:=by rw[aH,←hpf];exact yI (Au _) hs
   have htk:(E cI (pun s w)).take w=E cI (pun s w):=Ah (by omega)
   first|(rw[hpf,htk];exact⟨⟨_,_,rfl,rfl⟩,λh=>h rfl⟩)|(simp[hpf,htk];done)
end
section
variable [Vs.Envs]
attribute [local irreducible] Vs.Fn pun bL aP bM bP l03 chB rk cd3 chI stp aQ
theorem aLE {s:ByteArray}{w:Nat} (h:s.size<=w):(pun s w).length=w:=by rw[←aCr];exact yI (Au _) h
def cmT (fr to:Int) (c:List Int) (s:ByteArray):Int:=jA (fH fr to c) (pun s (to.toNat-fr.toNat))
theorem aFY (a:List Int) (fr to:Int) (s:ByteArray) (H:okF fr to a) (I:s.size<=to.toNat-fr.toNat):Fz F.jM [.agg (cC a),.agg (cFd fr to),.v (.string s)] (.v (.int .i64 (cmT fr to a s))):=by
 have U:=lF H;have O:=H;obtain⟨h0,Z,h2,L⟩:=O;have J:=aIv s (to.toNat-fr.toNat) (by omega) I;have Y:IntKind.i64.wrap (to-fr)=((to.toNat-fr.toNat:Nat):Int):=by rw[aV (by omega) (by omega)];omega
 have CH:=aAP (fH fr to a) (pun s (to.toNat-fr.toNat)) (aAN H) (by rw[U,aLE I]);rw[show jA (fH fr to a) (pun s (to.toNat-fr.toNat))=cmT fr to a s from rfl] at CH;refine fn0 Cd.i_compareText_k λX=>?_
 repeat' first|simp -dsimp only[go_sem,cC,cFd,fH_E,Ad,Al,Ac,Ai,Y]|apply Br.mk<;>intro h<;>try simp -dsimp only[h]|refine RgK.mk rfl ?_|refine aB.c (by first|exact J|exact CH) ?_|refine And.intro (by first|rfl|omega|decide|exact bZ H|exact⟨rfl,bZ H⟩|exact bB H|exact⟨rfl,bB H⟩|(refine⟨?_,?_⟩<;>(first|rfl|omega|decide|exact bZ H|exact⟨rfl,bZ H⟩|exact bB H|exact⟨rfl,bB H⟩))|(refine⟨?_,?_,?_⟩<;>(first|rfl|omega|decide|exact bZ H|exact⟨rfl,bZ H⟩|exact bB H|exact⟨rfl,bB H⟩))|(refine⟨?_,?_,?_,?_⟩<;>(first|rfl|omega|decide|exact bZ H|exact⟨rfl,bZ H⟩|exact bB H|exact⟨rfl,bB H⟩))) ?_|fail
 all_goals first|exact⟨_,_,rfl,rfl⟩|simp
end
section
variable [Vs.Envs]
attribute [local irreducible] Vs.Fn pun cmT flt zR bL aP bM bP l03 chB rk cd3 chI stp aQ
def dH (fr to:Int) (s:ByteArray) (c:List Int):Bool:=decide (cmT fr to c s<0)||decide (cmT fr to c s>0)
theorem sel1 (x:List Int) (fr to:Int) (s:ByteArray) (J:okF fr to x) (I:s.size<=to.toNat-fr.toNat):Fz F.dF [.agg (cC x),.ro (cFd fr to),.ro [.v (.string s)],.ro [.v (.string s)]] (.v (.bool (dH fr to s x))):=by
 have H:=aFY x fr to s J I;unfold dH;generalize cmT fr to x s=v at *
 refine fn0 Cd.i_SelectBetween_1_k λX=>?_
 repeat' first|simp -dsimp only[go_sem,cC,cFd,Af,Ag,Ao,Aq,Ae,Aj,Ad,Al,Ac,Ai,Ap]|apply Br.mk<;>intro h<;>try simp -dsimp only[h]|refine aB.c (by first|exact H) ?_|refine aC ?_|fail
 all_goals first|exact⟨_,_,rfl,rfl⟩|(rw[h,Di];exact⟨_,_,rfl,rfl⟩)
def iN (fr to:Int) (s:ByteArray) (l:List (List Int)):Int:=xV fr to [s,s] [l]
def uB (fr to:Int) (s:ByteArray) (l:List (List Int)):AV:=if iN fr to s l=0 then .sl 1 (E cC (flt (dH fr to s) l)) else .v (.slice none 0 0)
theorem aEg {fr to:Int}{s:ByteArray}{l:List (List Int)} (h:iN fr to s l=0):bE l=true∧dX fr to (bJ l)=true∧((s.size:Int)==W (to-fr))=true∧aP s=true∧bU fr to l=true:=by
 unfold iN xV at h;cases h1:bE l<;>cases h2:dX fr to (bJ l)<;>cases h3:((s.size:Int)==W (to-fr))<;>cases h4:aP s<;>cases h5:bU fr to l<;>simp[h1,h2,h3,h4,h5] at h⊢
attribute [local go_sem] Af Ag Ao Aq Ae Aj Ad Al Ac Ai Ap in
theorem aDf (l:List (List Int)) (fr to:Int) (s:ByteArray) (J:aY l) (hz:s.size<=1048576):Fz F.dV [.sl 1 (E cC l),.agg (cFd fr to),.v (.string s),.v (.string s)] (.tup [uB fr to s l,.v (.int .i64 (iN fr to s l))]):=by
 have H:=aFZ fr to [l] ⟨by simp,λd I=>by simp at I;subst I;exact J⟩ [s,s] (by simp) (λt ht=>by simp at ht;subst ht;exact hz);rw[show xV fr to [s,s] [l]=iN fr to s l from rfl] at H;by_cases h0:iN fr to s l=0
 .obtain⟨I,hf,Y,hc,ha⟩:=aEg h0;have ho:=dE I hf;rw[show uB fr to s l=.sl 1 (E cC (flt (dH fr to s) l)) by simp[uB,h0],h0];rw[h0] at H
  have U:∀x,x∈l->s.size<=to.toNat-fr.toNat:=λx L=>by
   have Z:((s.size:Int))=W (to-fr):=by simpa using Y
   obtain⟨f0,f1,f2,f3⟩:=ho x L;rw[show W (to-fr)=to-fr from aV (by omega) (by omega)] at Z;omega
  have O:=delF (dH fr to s) F.dF [.ro (cFd fr to),.ro [.v (.string s)],.ro [.v (.string s)]] rfl l J.1 (λx L=>sel1 x fr to s (ho x L) (U x L));refine fn0 Cd.i_SelectBetween_k λX=>?_
  repeat' first|simp -dsimp only[go_sem,cC,cFd]|apply Br.mk<;>intro h<;>try simp -dsimp only[h]|refine aB.c (by first|exact H) ?_|refine aC ?_|fail
  refine aB.own (aEp l J.2 J.1) rfl ?_;simp -dsimp only[go_sem,cC,cFd,BF,BG,lX,rV,lK,Ar,Be,Av,Am,Ak,AR,BQ,Vs.Name.t.injEq];refine⟨rfl,aB.borL O rfl ?_⟩;simp -dsimp only[go_sem,cC,cFd,BF,BG,lX,rV,lK,Ar,Be,Av,Am,Ak,AR,BQ,Vs.Name.t.injEq];have hr:=aE9 (flt (dH fr to s) l) (l.length-(flt (dH fr to s) l).length);have hb:(flt (dH fr to s) l).length<=l.length:=yY ..
  simp -dsimp only[go_sem,AJ,Ce,aH,AX,hr]
  first|exact⟨_,_,rfl,rfl⟩
 .have e0:(iN fr to s l != 0)=true:=by simp[h0]
  rw[show uB fr to s l=.v (.slice none 0 0) by simp[uB,h0]];generalize iN fr to s l=c at *
  refine fn0 Cd.i_SelectBetween_k λX=>?_
  repeat' first|simp -dsimp only[go_sem,cC,cFd,e0]|apply Br.mk<;>intro h<;>try simp -dsimp only[h]|refine aB.c (by first|exact H) ?_|refine aC ?_|fail
  all_goals first|exact⟨_,_,rfl,rfl⟩
theorem aBd (l:List (List Int)) (fr to:Int) (s:ByteArray) (J:aY l) (L:s.size<=1048576):Fz F.gF [.sl 1 (E cC l),.agg (cFd fr to),.v (.string s)] (.tup [uB fr to s l,.v (.int .i64 (iN fr to s l))]):=by
 have I:=aDf l fr to s J L;have H:uB fr to s l=.sl 1 (E cC (flt (dH fr to s) l))∨uB fr to s l=.v (.slice none 0 0):=by unfold uB;split<;>simp
 generalize iN fr to s l=c at *
 rcases H with H|H<;>rw[H] at I⊢
 all_goals
  refine fn0 Cd.i_SelectEqual_k λX=>?_
  repeat' first|simp -dsimp only[go_sem,cC,cFd,Af,Ag,Ao,Aq,Ae,Aj,Ad,Al,Ac,Ai,Ap]|apply Br.mk<;>intro h<;>try simp -dsimp only[h]|refine aB.c (by first|exact I) ?_|refine aC ?_|fail
  all_goals first|exact⟨_,_,rfl,rfl⟩
end
section
variable [Vs.Envs]
attribute [local irreducible] Vs.Fn pun cmT flt zR bL aP bM bP l03 chB rk cd3 chI stp aQ
end
section
variable [Vs.Envs]
attribute [local irreducible] Vs.Fn pun cmT zR bL aP bM bP l03 chB rk cd3 chI stp aQ
theorem aEm {l:List (List Int)}{fr to:Int} (I:bE l=true) (H:zA fr to (bJ l)=true):∀c,c∈l->okP fr to c:=by
 intro c J;unfold zA at H;rw[Aw] at H;obtain⟨h0,O,h2,U⟩:=dE I H.1 c J;have L:=H.2;rw[show W (to-fr)=to-fr from aV (by omega) (by omega)] at L;simp only[bE,Aw,Az,Bb] at I;obtain⟨F,Y⟩:=I.1 c J;simp only[iH,inB,Aw,Az,Bb] at F;exact⟨h0,O,h2,by simpa using L,U,λy Z=>F.1 y Z⟩
theorem aE0 {fr to:Int}{l:List (List Int)} (I:∀c,c∈l->okF fr to c) (H:l.length<=40):∀c,c∈iU fr to l->c∈l:=by
 intro c F;obtain⟨i,hi,rfl⟩:=Bq.1 F;exact nG (aBW I H i hi)
theorem aE1 (fr to:Int) (l:List (List Int)):(iU fr to l).length=l.length:=by unfold iU;rw[Bh,uR]
end
section
variable [Vs.Envs]
attribute [local irreducible] Vs.Fn bL aP bM bP l03 chB rk cd3 chI stp aQ
attribute [local go_sem] cFd aH Af Ag Ao Aq Ae Aj Ad Al Ac Ai Ap in
theorem aEx (l:List (List Int)) (hk:aY l):Fz F.rJ [.sl 1 (E cC l)] (.sl 1 (E cC l)):=by
 refine fn0 Cd.s_l02Copy_k λX=>?_
 repeat' first|simp -dsimp only[go_sem,cC]|apply Br.mk<;>intro h<;>try simp -dsimp only[h]|refine aC ?_|fail
 refine aM.at dM (X:={zz:Nat×(Unit) // zz.1<=l.length∧True}) (λzz=>[(3,.loc (.t 3 0) 0 zz.1.1),(4,.v (.int .i64 zz.1.1))]) (λzz=>[(.t 3 0,.arr 1 (E cC (l.take zz.1.1)) false)]) (λzz=>l.length-zz.1.1) ⟨(0,()),by omega,trivial⟩ ?_ ?_
 .simp[Vs.LeL,Vs.look,aA,aS,aJ,Vs.hset,aK,Vs.E]
 .rintro⟨⟨i,_⟩,hi,hg⟩;dsimp only at hi hg;simp -dsimp only[go_sem,cC];refine Br.mk (λhc=>?_) λhc=>?_
  .have hlt:i<l.length:=Dq;have hw:=aG hlt (hk.1);have hm:(E cC l).getD i []=[.sl 1 (E cI l[i])]:=aN hlt;have NC:=xJ l[i] (hk.2 _ (Aa hlt));have hap:E cC (l.take i)++[[.sl 1 (E cI l[i])]]=E cC (l.take (i+1)):=by rw[aX hlt,bG];rfl
   have hal:(E cC (l.take i)).length=i:=by rw[aH];simp;omega
   have hl:=hk.1
   repeat' first|simp -dsimp only[go_sem,hm,hw,hap,hal,cC]|apply Br.mk<;>intro h<;>try simp -dsimp only[h]|refine aB.c (by first|exact NC) ?_|refine aC ?_|fail
   all_goals first|omega|(exact nx (i+1,()) trivial (h2:=by simp[Vs.LeL,Vs.look,aA,aS,aJ,Vs.hset,aK,hap]))
  .have hge:i=l.length:=by
    have:¬i<l.length:=Dq;omega
   subst hge;simp -dsimp only[go_sem,cC]
   have htk:(E cC (l.take l.length)).take l.length=E cC l:=by
    rw[Ah (Au l.length)];exact Ah (by rw[aH];exact Au _)
   first|exact⟨⟨_,_,rfl,rfl⟩,λh=>h rfl⟩|(rw[htk];exact⟨⟨_,_,rfl,rfl⟩,λh=>h rfl⟩)|(simp[htk];done)
end
section
variable [Vs.Envs]
attribute [local irreducible] Vs.Fn bL aP bM bP l03 chB rk cd3 chI stp aQ stb dQ mgK mgI skp gM stF aZ iT
theorem aDX {l:List (List Int)}{i:Nat} (h:i<l.length):(E cC l).getD i []=[.sl 1 (E cI (l.getD i []))]:=by rw[aN h];simp[cC,List.getD,h]
theorem aFB {fr to:Int}{l:List (List Int)}{i:Nat} (h:i<l.length):(E cSt (bR fr to l)).getD i []=[.v (.string (txt (fH fr to (l.getD i []))))]:=by
 rw[aN (by simpa[bR] using h)];simp[cSt,bR,List.getD,h]
theorem aB1 {l:List (List Int)}{i:Nat} (h:i<l.length):l.getD i []∈l:=by rw[show l.getD i []=l[i] by simp[List.getD,h]];exact Aa h
theorem aHa (G:Int->List Int) (p:List Int) (x:Int):E cC (p.map G)++[[.sl 1 (E cI (G x))]]=E cC ((p++[x]).map G):=by rw[Bu,bG];rfl
attribute [local go_sem] cFd cD Af Ag Ao Aq Ae Aj Ad Al Ac Ai Ap aH in
theorem aKj (a b:List (List Int)) (fr to:Int) (ha:aY a) (hb:aY b) (oa:∀c,c∈a->okF fr to c) (ob:∀c,c∈b->okF fr to c) (ca:bU fr to a=true) (cb:bU fr to b=true) (h40:a.length+b.length<=40) :
  Fz F.nZ [.sl 1 (E cC a),.sl 1 (E cC b),.sl 1 (E cSt (bR fr to a)),.sl 1 (E cSt (bR fr to b))] (.sl 1 (E cC ((mgF (cfO fr to (a++b)) a.length b.length).map λi=>(a++b).getD i.toNat []))):=by
 have hkl:=uV fr to a;have hkm:=uV fr to b
 have hcmp:∀i k:Nat,i<a.length->k<b.length->Fz F.fM [.v (.string (txt (fH fr to (b.getD k [])))),.v (.string (txt (fH fr to (a.getD i []))))] (.v (.int .i64 (cfO fr to (a++b) ((a.length+k:Nat):Int) (i:Int)))):=by
  intro i k hi hk
  have e:cfO fr to (a++b) ((a.length+k:Nat):Int) (i:Int)=jA (fH fr to (b.getD k [])) (fH fr to (a.getD i [])):=by
   unfold cfO;rw[BR,BR,aH6 hi,aH5];rfl
  rw[e];have m1:=aB1 hi;have m2:=aB1 hk;exact vV _ _ (aAN (ob _ m2)) ((lF (ob _ m2)).trans (lF (oa _ m1)).symm) (Az.1 cb _ m2) (Az.1 ca _ m1)
 have gA:∀i:Nat,i<a.length->(λi:Int=>(a++b).getD i.toNat []) (i:Int)=a.getD i []:=λi hi=>by show(a++b).getD (i:Int).toNat []=_;rw[BR,aH6 hi]
 have gB:∀j:Nat,(λi:Int=>(a++b).getD i.toNat []) ((a.length+j:Nat):Int)=b.getD j []:=λj=>by show(a++b).getD ((a.length+j:Nat):Int).toNat []=_;rw[BR,aH5]
 have hdr:∀k,k<=b.length->(rng (a.length+k) (b.length-k)).map (λi=>(a++b).getD i.toNat [])=b.drop k:=by
  intro k hk;apply List.ext_getElem
  .simp[yG]
  .intro j h1 h2;simp only[Bh,yG] at h1;simp only[rng,DC,List.getElem_range',List.getElem_drop,Nat.one_mul];have g2:=gB (k+j);simp only at g2;rw[show a.length+k+j=a.length+(k+j) by omega,g2];simp[List.getD,(by omega:k+j<b.length)]
 generalize(λi:Int=>(a++b).getD i.toNat [])=G at *
 generalize cfO fr to (a++b)=cf at *
 refine fn0 Cd.s_l09Merge_k λX=>?_
 repeat' first|simp -dsimp only[go_sem,cC,hkl,hkm]|apply Br.mk<;>intro h<;>try simp -dsimp only[h]|refine aC ?_|fail
 refine aM.at dM (X:={zz:Nat×(Unit) // zz.1<=a.length∧True}) (λzz=>[(9,.loc (.t 9 0) 0 (mgI cf a.length b.length zz.1.1).length),(10,.v (.int .i64 (mgK cf a.length b.length zz.1.1:Nat))),(11,.v (.int .i64 zz.1.1))]) (λzz=>[(.t 9 0,.arr 1 (E cC ((mgI cf a.length b.length zz.1.1).map G)) false)]) (λzz=>a.length-zz.1.1) ⟨(0,()),by omega,trivial⟩ ?_ ?_
 .simp[Vs.LeL,Vs.look,aA,aS,aJ,Vs.hset,aK,Vs.E,mgI,mgK]
 .rintro⟨⟨i,_⟩,hi,hg⟩;dsimp only at hi hg;simp -dsimp only[go_sem,cC,hkl,hkm];refine Br.mk (λhc=>?_) λhc=>?_
  .have hlt:i<a.length:=Dq;have hw:=aG hlt (by omega);have hki:=vR cf a.length b.length i;have hki1:=vR cf a.length b.length (i+1);have hkg:=aEq cf a.length b.length i;have hli:=aBZ cf a.length b.length i;have hli1:=aBZ cf a.length b.length (i+1);have hs0:skp cf a.length i (b.length-mgK cf a.length b.length i) (mgK cf a.length b.length i)=mgK cf a.length b.length (i+1):=by rw[mgK]
   have hmI:mgI cf a.length b.length (i+1)=mgI cf a.length b.length i++rng (a.length+mgK cf a.length b.length i) (mgK cf a.length b.length (i+1)-mgK cf a.length b.length i)++[(i:Int)]:=by rw[mgI]
   have hga:=gA i hlt;have xa:=aFB (fr:=fr) (to:=to) hlt;have xc:=aDX hlt;have hc20:(a.getD i []).length<=20:=(oa _ (aB1 hlt)).2.2.2;have NA:=xJ (a.getD i []) (by omega);generalize hK:mgK cf a.length b.length i=k0 at *
   generalize hK1:mgK cf a.length b.length (i+1)=k1 at *
   generalize hO:mgI cf a.length b.length i=o at *
   generalize hO1:mgI cf a.length b.length (i+1)=o1 at *
   simp -dsimp only[go_sem,hw,cC,hkl,hkm];refine aM.at dM (X:={k:Nat // k0<=k∧k<=b.length∧skp cf a.length i (b.length-k) k=k1}) (λk=>[(9,.loc (.t 9 0) 0 (o.length+(k.1-k0))),(10,.v (.int .i64 (k.1:Nat))),(16,.junk)]) (λk=>[(.t 9 0,.arr 1 (E cC ((o++rng (a.length+k0) (k.1-k0)).map G)) false)]) (λk=>b.length-k.1) ⟨k0,Au _,hki,hs0⟩ ?_ ?_
   .simp[Vs.LeL,Vs.look,aA,aS,aJ,Vs.hset,aK,Cw,aJN]
   .rintro⟨k,hk0,hkb,hks⟩
    try dsimp only at hk0 hkb hks
    by_cases hlk:k<b.length
    .have e1:decide ((k:Int)<(b.length:Int))=true:=by simp;omega
     have w1:IntKind.i64.wrap ((k:Int)+1)=((k+1:Nat):Int):=by rw[aV (by omega) (by omega)];omega
     rw[aJF hlk] at hks;have yb:=aFB (fr:=fr) (to:=to) hlk;have yc:=aDX hlk;have HC:=hcmp i k hlt hlk;have hgb:=gB k;have hb20:(b.getD k []).length<=20:=(ob _ (aB1 hlk)).2.2.2;have NB:=xJ (b.getD k []) (by omega);by_cases hneg:cf ((a.length+k:Nat):Int) (i:Int)<0
     .have e2:decide (cf ((a.length+k:Nat):Int) (i:Int)<0)=true:=A9 hneg;rw[AP hneg] at hks
      have hap:E cC ((o++rng (a.length+k0) (k-k0)).map G)++[[.sl 1 (E cI (b.getD k []))]]=E cC ((o++rng (a.length+k0) (k+1-k0)).map G):=by
       rw[show k+1-k0=(k-k0)+1 by omega,aFa,show a.length+k0+(k-k0)=a.length+k by omega,←Bz,←aHa,hgb]
      have hal:(E cC ((o++rng (a.length+k0) (k-k0)).map G)).length=o.length+(k-k0):=by rw[aH];simp[yG]
      have hsum:o.length+(k-k0)+1=o.length+(k+1-k0):=by omega
      repeat' first|simp -dsimp only[go_sem,e1,e2,w1,yb,yc,xa,xc,hap,hal,cC,hkl,hkm]|apply Br.mk<;>intro h<;>try simp -dsimp only[h]|refine aB.c (by first|exact HC|exact NB) ?_|refine aC ?_|fail
      all_goals first|omega|(refine⟨⟨k+1,by omega,by omega,hks⟩,?_,by simp only;omega⟩;simp[Vs.LeL,Vs.look,aA,aS,aJ,Vs.hset,aK,hsum])
     .have e2:decide (cf ((a.length+k:Nat):Int) (i:Int)<0)=false:=AQ hneg;rw[AC hneg] at hks;subst hks
      have hap:E cC ((o++rng (a.length+k0) (k-k0)).map G)++[[.sl 1 (E cI (a.getD i []))]]=E cC (o1.map G):=by
       rw[hmI,←aHa,hga]
      have hal:(E cC ((o++rng (a.length+k0) (k-k0)).map G)).length=o.length+(k-k0):=by rw[aH];simp[yG]
      have hsum:o.length+(k-k0)+1=o1.length:=by omega
      repeat' first|simp -dsimp only[go_sem,e1,e2,w1,yb,yc,xa,xc,hap,hal,hw,hsum,cC,hkl,hkm]|apply Br.mk<;>intro h<;>try simp -dsimp only[h]|refine aB.c (by first|exact HC|exact NA) ?_|refine And.intro ?_ (λh=>absurd rfl h)|refine And.intro ?_ (λh=>absurd rfl h)|refine aC ?_|fail
      all_goals first|omega|(exact⟨⟨(i+1,()),by omega,trivial⟩,by simp[Vs.LeL,Vs.look,aA,aS,aJ,Vs.hset,aK,hsum,hO1,hK1],by simp only;omega⟩)
    .obtain rfl:k=b.length:=by omega
     have e1:decide ((b.length:Int)<(b.length:Int))=false:=by simp
     rw[aJE (by omega)] at hks;subst hks
     have hap:E cC ((o++rng (a.length+k0) (b.length-k0)).map G)++[[.sl 1 (E cI (a.getD i []))]]=E cC (o1.map G):=by
      rw[hmI,←aHa,hga]
     have hal:(E cC ((o++rng (a.length+k0) (b.length-k0)).map G)).length=o.length+(b.length-k0):=by rw[aH];simp[yG]
     have hsum:o.length+(b.length-k0)+1=o1.length:=by omega
     repeat' first|simp -dsimp only[go_sem,e1,xa,xc,hap,hal,hw,hsum,cC,hkl,hkm]|apply Br.mk<;>intro h<;>try simp -dsimp only[h]|refine aB.c (by first|exact NA) ?_|refine And.intro ?_ (λh=>absurd rfl h)|refine And.intro ?_ (λh=>absurd rfl h)|refine aC ?_|fail
     all_goals first|omega|(exact⟨⟨(i+1,()),by omega,trivial⟩,by simp[Vs.LeL,Vs.look,aA,aS,aJ,Vs.hset,aK,hsum,hO1,hK1],by simp only;omega⟩)
  .have hge:i=a.length:=by
    have:¬i<a.length:=Dq;omega
   subst hge;simp -dsimp only[go_sem,cC,hkl,hkm];have hka:=vR cf a.length b.length a.length;have hli:=aBZ cf a.length b.length a.length;have hd2:=hdr _ hka
   have hfin:E cC ((mgI cf a.length b.length a.length).map G)++E cC (b.drop (mgK cf a.length b.length a.length))=E cC ((mgF cf a.length b.length).map G):=by
    rw[←hd2,←bG,←Bu];rfl
   have hfl:=aLO cf a.length b.length;have hdE:(E cC b).drop (mgK cf a.length b.length a.length)=E cC (b.drop (mgK cf a.length b.length a.length)):=by simp[E,CJ]
   have hdl:(b.drop (mgK cf a.length b.length a.length)).length=b.length-mgK cf a.length b.length a.length:=by simp
   have CP:=aEx (b.drop (mgK cf a.length b.length a.length)) ⟨by omega,λc hc=>by have:=(ob c (CZ hc)).2.2.2;omega⟩;have hal:(E cC ((mgI cf a.length b.length a.length).map G)).length=(mgI cf a.length b.length a.length).length:=by rw[aH];simp
   have hsum:(mgI cf a.length b.length a.length).length+(b.length-mgK cf a.length b.length a.length)=a.length+b.length:=by omega
   have htk:(E cC ((mgF cf a.length b.length).map G)).take (a.length+b.length)=E cC ((mgF cf a.length b.length).map G):=Ah (by rw[aH,Bh];omega);generalize mgF cf a.length b.length=mf at *
   generalize mgK cf a.length b.length a.length=k at *
   generalize mgI cf a.length b.length a.length=o at *
   refine⟨?_,λh=>h rfl⟩
   repeat' first|simp -dsimp only[go_sem,hdE,hdl,hal,hfin,hsum,htk,cC,hkl,hkm]|apply Br.mk<;>intro h<;>try simp -dsimp only[h]|refine aB.c (by first|exact CP) ?_|refine aC ?_|fail
   all_goals first|omega|exact⟨_,_,rfl,rfl⟩
end
section
variable [Vs.Envs]
attribute [local irreducible] Vs.Fn bL aP bM bP l03 chB rk cd3 chI stp aQ stb dQ mgF gM stF aZ iT iU bJ
def aG0 (a b:List (List Int)):Bool:=decide ((a.length:Int)>0)&&(decide ((b.length:Int)>0)&&(bJ a != bJ b))
def mgC (fr to:Int) (a b:List (List Int)):Int:=if iT fr to [a,b]=0 then(if aG0 a b then 9 else if gM fr to a&&gM fr to b then(if(a.length:Int)+(b.length:Int)>40 then 5 else 0) else 6) else iT fr to [a,b]
def mgV (fr to:Int) (a b:List (List Int)):AV:=if mgC fr to a b=0 then .sl 1 (E cC (iU fr to (a++b))) else .v (.slice none 0 0)
theorem aAb {l:List (List Int)} (h:0<l.length):bJ l=((l.getD 0 []).length:Int):=by unfold bJ;rw[AC (by omega)]
theorem wrap_add {a b:Nat} (h:a<=1048576) (h2:b<=1048576):IntKind.i64.wrap ((a:Int)+(b:Int))=(a:Int)+(b:Int):=aV (by omega) (by omega)
attribute [local go_sem] Int.reduceBEq Int.reduceBNe cD aH Af Ag Ao Aq Ae Aj Ad Al Ac Ai Ap Av Am Ak AR BQ Vs.Name.t.injEq BF BG lX rV lK Ar Be in
theorem zU (a b:List (List Int)) (fr to:Int) (J:aY a) (L:aY b) (h0:mgC fr to a b≠0):Fz F.fQ [.sl 1 (E cC a),.sl 1 (E cC b),.agg (cFd fr to)] (.tup [.v (.slice none 0 0),.v (.int .i64 (mgC fr to a b))]):=by
 have O:=wrap_add J.1 L.1;have I:=qM fr to [a,b] (yE J L);by_cases H:iT fr to [a,b]=0
 rotate_left
 .have e0:(iT fr to [a,b] != 0)=true:=by simp[H]
  have hz:mgC fr to a b=iT fr to [a,b]:=by simp[mgC,H]
  rw[hz];refine fn0 Cd.i_MergeDecks_k λX=>?_
  repeat' first|simp -dsimp only[go_sem,cC,cFd,e0]|apply Br.mk<;>intro h<;>try simp -dsimp only[h]|refine aB.c (by first|exact I) ?_|refine aC ?_|fail
  all_goals first|exact⟨_,_,rfl,rfl⟩
 obtain⟨⟨da,db⟩,⟨fa,fb⟩,ca,cb⟩:=y8 H;have IA:=fU a fr to (dE da fa) J.1;have IB:=fU b fr to (dE db fb) L.1;have DA:=iC a;have DB:=iC b;rw[H] at I;unfold mgC aG0 at h0⊢;rw[AP H] at h0⊢;obtain⟨pA,Y⟩:∃p,decide ((a.length:Int)>0)=p:=⟨_,rfl⟩;obtain⟨pB,Z⟩:∃p,decide ((b.length:Int)>0)=p:=⟨_,rfl⟩;obtain⟨pW,eW⟩:∃p,(bJ a != bJ b)=p:=⟨_,rfl⟩;obtain⟨p5,U⟩:∃p,decide ((a.length:Int)+(b.length:Int)>40)=p:=⟨_,rfl⟩;generalize gM fr to a=p1 at *
 generalize gM fr to b=p2 at *
 have e6:((a.length:Int)+(b.length:Int)>40)=(p5=true):=by rw[←U];simp
 simp only[Y,Z,eW,e6] at h0⊢;refine fn0 Cd.i_MergeDecks_k λX=>?_
 repeat' first|simp -dsimp only[go_sem,cC,cFd,O,Y,Z,eW,U]|apply Br.mk<;>intro h<;>try simp -dsimp only[h]|refine aB.c (by first|exact I|exact DA|exact DB|exact IA|exact IB) ?_|refine aC ?_|fail
 all_goals first|exact⟨_,_,rfl,rfl⟩|(simp_all;done)
end
end Go.Proofs.YtkgeiaideklmoaaGreat
