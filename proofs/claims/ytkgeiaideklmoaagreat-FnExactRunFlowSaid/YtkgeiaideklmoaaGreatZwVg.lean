/- MergeDecks: the program and the reference. -/
import Derived.Test.YtkgeiaideklmoaaGreatZwSp
import Derived.Test.YtkgeiaideklmoaaGreatZwQh
import Derived.Test.YtkgeiaideklmoaaGreatZwQe
import Derived.Test.YtkgeiaideklmoaaGreatZwC
import Derived.Test.YtkgeiaideklmoaaGreatZwK
import Derived.Test.YtkgeiaideklmoaaGreatVtR
import Derived.Test.YtkgeiaideklmoaaGreatZuR
set_option linter.all false
set_option maxHeartbeats 8000000
namespace Go.Proofs.YtkgeiaideklmoaaGreat
open Go.Vs
section
variable [Vs.Envs]
attribute [local irreducible] Vs.Fn aV bA iW bK aO bL bM l03 chB rk cd3 chI stp aP
def oC (fr to:Int) (l:List (List Int)):List (List Int):=(aV fr to l l.length).map λi=>l.getD i.toNat []
def yG (fr to:Int) (l:List (List Int)):AV:=if bA fr to l=0 then .sl 1 (E cC (oC fr to l)) else .v (.slice none 0 0)
theorem aGq (fr to:Int) (l:List (List Int)):iW fr to [l]=bA fr to l:=by
 unfold iW bA;simp only[BK,DL,Bool.and_true]
theorem zJ {fr to:Int}{l:List (List Int)}:∀x,x∈aV fr to l l.length->inO l.length x:=λx F=>vR l.length x F
attribute [local go_sem] cD aH Af Ag Al Aq Ae Ai Ac Ak Ab Ah Am in
theorem aAk (l:List (List Int)) (fr to:Int) (hk:aZ l):Fz F.dX [.sl 1 (E cC l),.agg (cFd fr to)] (.tup [yG fr to l,.v (.int .i64 (bA fr to l))]):=by
 have CC:=qR fr to [l] ⟨by simp,λd hd=>by simp at hd;subst hd;exact hk⟩;rw[aGq] at CC;by_cases h0:bA fr to l=0
 .obtain⟨hd,hf,ha⟩:=aCj h0;have ho:=dF hd hf;have h40:=jB hd;rw[show yG fr to l=.sl 1 (E cC (oC fr to l)) by simp[yG,h0],h0];have hol:=iU fr to l l.length;have hoi:=zJ (fr:=fr) (to:=to) (l:=l);rw[show oC fr to l=(aV fr to l l.length).map (λi=>l.getD i.toNat []) from rfl];have GO:=aC8 l fr to ho (by omega);rw[h0] at CC;generalize aV fr to l l.length=o at *
  refine fn0 Cd.i_FirstOfGroups_k λX=>?_
  repeat' first|simp -dsimp only[go_sem,cC,cFd]|apply Br.mk<;>intro h<;>try simp -dsimp only[h]|refine aB.c (by first|exact CC|exact GO) ?_|refine aC ?_|fail
  refine aM.at dM (X:={zz:Nat×(Unit) // zz.1<=o.length∧True}) (λzz=>[(7,.loc (.t 7 0) 0 zz.1.1),(22,.v (.int .i64 zz.1.1))]) (λzz=>[(.t 7 0,.arr 1 (E cC ((o.take zz.1.1).map λi=>l.getD i.toNat [])) false)]) (λzz=>o.length-zz.1.1) ⟨(0,()),by omega,trivial⟩ ?_ ?_
  .simp[Vs.LeL,Vs.look,aA,aS,aJ,Vs.hset,aK,Vs.E]
  .rintro⟨⟨i,_⟩,hi,hg⟩;dsimp only at hi hg;simp -dsimp only[go_sem,cC,cFd];refine Br.mk (λhc=>?_) λhc=>?_
   .have hlt:i<o.length:=Dq;have hw:=aG hlt (by omega);have hx:=hoi _ (Aa hlt);have gx:=aBD hx;have hm:=nO hx;have hc20:(l.getD o[i].toNat []).length<=20:=(ho _ hm).2.2.2;have NC:=aCe (l.getD o[i].toNat []) (by omega);have x0:=hx.1;have x1:=hx.2
    have hap:E cC ((o.take i).map λi=>l.getD i.toNat [])++[[.sl 1 (E cI (l.getD o[i].toNat []))]]=E cC ((o.take (i+1)).map λi=>l.getD i.toNat []):=by
     rw[aY hlt,Bu,bH];rfl
    have hal:(E cC ((o.take i).map λi=>l.getD i.toNat [])).length=i:=by rw[aH];simp;omega
    repeat' first|simp -dsimp only[go_sem,dJ hlt,hw,hap,hal,gx,cC,cFd]|apply Br.mk<;>intro h<;>try simp -dsimp only[h]|refine aB.c (by first|exact NC) ?_|refine aC ?_|fail
    all_goals first|omega|(exact nx (i+1,()) trivial (h2:=by simp[Vs.LeL,Vs.look,aA,aS,aJ,Vs.hset,aK,hap]))
   .have hge:i=o.length:=by
     have:¬i<o.length:=Dq;omega
    subst hge;simp -dsimp only[go_sem,cC,cFd]
    have htk:(E cC ((o.take o.length).map λi=>l.getD i.toNat [])).take o.length=E cC (o.map λi=>l.getD i.toNat []):=by
     rw[Aj (Ar o.length)];exact Aj (by rw[aH];simp)
    first|exact⟨⟨_,_,rfl,rfl⟩,λh=>h rfl⟩|(rw[htk];exact⟨⟨_,_,rfl,rfl⟩,λh=>h rfl⟩)|(simp[htk];done)
 .have e0:(bA fr to l != 0)=true:=by simp[h0]
  rw[show yG fr to l=.v (.slice none 0 0) by simp[yG,h0]];generalize bA fr to l=c at *
  refine fn0 Cd.i_FirstOfGroups_k λX=>?_
  repeat' first|simp -dsimp only[go_sem,cC,cFd,e0]|apply Br.mk<;>intro h<;>try simp -dsimp only[h]|refine aB.c (by first|exact CC) ?_|refine aC ?_|fail
  all_goals first|exact⟨_,_,rfl,rfl⟩
attribute [local go_sem] cD aH Af Ag Al Aq Ae Ai Ac Ak Ab Ah Am in
theorem aAb (l:List (List Int)) (fr to:Int) (hk:aZ l):Fz F.jE [.sl 1 (E cC l),.agg (cFd fr to)] (.tup [yG fr to l,.v (.int .i64 (bA fr to l))]):=by
 have KS:=jV l fr to hk.2 hk.1;by_cases h0:bA fr to l=0
 .obtain⟨hd,hf,ha⟩:=aCj h0;have ho:=dF hd hf;have h40:=jB hd;rw[show yG fr to l=.sl 1 (E cC (oC fr to l)) by simp[yG,h0],h0];have hol:=iU fr to l l.length;have hoi:=zJ (fr:=fr) (to:=to) (l:=l);rw[show oC fr to l=(aV fr to l l.length).map (λi=>l.getD i.toNat []) from rfl];have GO:=aD4 l fr to ho ha (by omega);rw[show nV fr to l=.sl 1 (E cSt (bS fr to l)) by simp[nV,h0],h0] at KS;generalize aV fr to l l.length=o at *
  refine fn0 Cd.s_FirstOfGroups_k λX=>?_
  repeat' first|simp -dsimp only[go_sem,cC,cFd]|apply Br.mk<;>intro h<;>try simp -dsimp only[h]|refine aB.c (by first|exact KS|exact GO) ?_|refine aC ?_|fail
  refine aM.at dM (X:={zz:Nat×(Unit) // zz.1<=o.length∧True}) (λzz=>[(9,.loc (.t 9 0) 0 zz.1.1),(10,.v (.int .i64 zz.1.1))]) (λzz=>[(.t 9 0,.arr 1 (E cC ((o.take zz.1.1).map λi=>l.getD i.toNat [])) false)]) (λzz=>o.length-zz.1.1) ⟨(0,()),by omega,trivial⟩ ?_ ?_
  .simp[Vs.LeL,Vs.look,aA,aS,aJ,Vs.hset,aK,Vs.E]
  .rintro⟨⟨i,_⟩,hi,hg⟩;dsimp only at hi hg;simp -dsimp only[go_sem,cC,cFd];refine Br.mk (λhc=>?_) λhc=>?_
   .have hlt:i<o.length:=Dq;have hw:=aG hlt (by omega);have hx:=hoi _ (Aa hlt);have gx:=aBD hx;have hm:=nO hx;have hc20:(l.getD o[i].toNat []).length<=20:=(ho _ hm).2.2.2;have NC:=x9 (l.getD o[i].toNat []) (by omega);have x0:=hx.1;have x1:=hx.2
    have hap:E cC ((o.take i).map λi=>l.getD i.toNat [])++[[.sl 1 (E cI (l.getD o[i].toNat []))]]=E cC ((o.take (i+1)).map λi=>l.getD i.toNat []):=by
     rw[aY hlt,Bu,bH];rfl
    have hal:(E cC ((o.take i).map λi=>l.getD i.toNat [])).length=i:=by rw[aH];simp;omega
    repeat' first|simp -dsimp only[go_sem,dJ hlt,hw,hap,hal,gx,cC,cFd]|apply Br.mk<;>intro h<;>try simp -dsimp only[h]|refine aB.c (by first|exact NC) ?_|refine aC ?_|fail
    all_goals first|omega|(exact nx (i+1,()) trivial (h2:=by simp[Vs.LeL,Vs.look,aA,aS,aJ,Vs.hset,aK,hap]))
   .have hge:i=o.length:=by
     have:¬i<o.length:=Dq;omega
    subst hge;simp -dsimp only[go_sem,cC,cFd]
    have htk:(E cC ((o.take o.length).map λi=>l.getD i.toNat [])).take o.length=E cC (o.map λi=>l.getD i.toNat []):=by
     rw[Aj (Ar o.length)];exact Aj (by rw[aH];simp)
    first|exact⟨⟨_,_,rfl,rfl⟩,λh=>h rfl⟩|(rw[htk];exact⟨⟨_,_,rfl,rfl⟩,λh=>h rfl⟩)|(simp[htk];done)
 .have e0:(bA fr to l != 0)=true:=by simp[h0]
  rw[show yG fr to l=.v (.slice none 0 0) by simp[yG,h0]];rw[show nV fr to l=.v (.slice none 0 0) by simp[nV,h0]] at KS;generalize bA fr to l=c at *
  refine fn0 Cd.s_FirstOfGroups_k λX=>?_
  repeat' first|simp -dsimp only[go_sem,cC,cFd,e0]|apply Br.mk<;>intro h<;>try simp -dsimp only[h]|refine aB.c (by first|exact KS) ?_|refine aC ?_|fail
  all_goals first|exact⟨_,_,rfl,rfl⟩
end
section
variable [Vs.Envs]
attribute [local irreducible] Vs.Fn bK aO bL bM l03 chB rk cd3 chI stb dR
theorem aDO {fr to:Int}{l:List (List Int)}:∀n,aP fr to l n=[]->∀i,i<n->¬cmF fr to (l.getD (i+1) []) (l.getD i [])<0
 |0,_,i,hi=>by omega
 | n+1,h,i,hi=>by
  rw[aP] at h;obtain⟨F,h2⟩:=List.append_eq_nil_iff.1 h;by_cases hin:i=n
  .subst hin;intro H;rw[AP H] at h2;cases h2
  .exact aDO n F i (by omega)
theorem aLD {fr to:Int}{l:List (List Int)} (h:gN fr to l=true):∀i,i+1<l.length->¬cmF fr to (l.getD (i+1) []) (l.getD i [])<0:=by
 intro i hi
 have h0:stp fr to l=[]:=by
  unfold gN at h;have:=BN.1 h;exact Bt (by omega)
 exact aDO (l.length-1) h0 i (by omega)
def skp (cf:Int->Int->Int) (na:Nat) (i:Nat):Nat->Nat->Nat
 |0,k=>k
 |m+1,k=>if cf ((na+k:Nat):Int) (i:Int)<0 then skp cf na i m (k+1) else k
def mgK (cf:Int->Int->Int) (na nb:Nat):Nat->Nat
 |0=>0
 |i+1=>skp cf na i (nb-mgK cf na nb i) (mgK cf na nb i)
def rng (a n:Nat):List Int:=(List.range' a n).map λj:Nat=>(j:Int)
def mgI (cf:Int->Int->Int) (na nb:Nat):Nat->List Int
 |0=>[]
 |i+1=>mgI cf na nb i++rng (na+mgK cf na nb i) (mgK cf na nb (i+1)-mgK cf na nb i)++[(i:Int)]
def mgF (cf:Int->Int->Int) (na nb:Nat):List Int:=mgI cf na nb na++rng (na+mgK cf na nb na) (nb-mgK cf na nb na)
theorem aKp (a:Nat):rng a 0=[]:=rfl
theorem aFD (a n:Nat):rng a (n+1)=rng a n++[((a+n:Nat):Int)]:=by
 simp[rng,List.range'_concat]
theorem yX (a n:Nat):(rng a n).length=n:=by simp[rng]
theorem aH4 {a n:Nat}{x:Int} (h:x∈rng a n):∃j,a<=j∧j<a+n∧x=(j:Int):=by
 obtain⟨j,H,rfl⟩:=Bq.1 h;obtain⟨F,h2⟩:=Dx.1 H;exact⟨j,F,h2,rfl⟩
theorem aEM (a m n:Nat):rng a m++rng (a+m) n=rng a (m+n):=by
 simp[rng,←Bu,List.range'_append]
theorem aKh {cf:Int->Int->Int}{na i nb k:Nat} (h:k<nb):skp cf na i (nb-k) k=if cf ((na+k:Nat):Int) (i:Int)<0 then skp cf na i (nb-(k+1)) (k+1) else k:=by
 rw[show nb-k=(nb-(k+1))+1 by omega,skp]
theorem aKg {cf:Int->Int->Int}{na i nb k:Nat} (h:¬k<nb):skp cf na i (nb-k) k=k:=by
 rw[show nb-k=0 by omega,skp]
theorem aGT (cf:Int->Int->Int) (na i:Nat):∀m k,k<=skp cf na i m k∧skp cf na i m k<=k+m
 |0,k=>by simp[skp]
 | m+1,k=>by
  rw[skp];split
  .have:=aGT cf na i m (k+1);omega
  .omega
theorem aKi (cf:Int->Int->Int) (na i:Nat):∀m k j,k<=j->j<skp cf na i m k->cf ((na+j:Nat):Int) (i:Int)<0
 |0,k,j,h1,h2=>by rw[skp] at h2;omega
 | m+1,k,j,h1,h2=>by
  rw[skp] at h2;split at h2
  .rename_i F;by_cases H:j=k
   .subst H;exact F
   .exact aKi cf na i m (k+1) j (by omega) h2
  .omega
theorem aKj (cf:Int->Int->Int) (na i:Nat):∀m k,skp cf na i m k<k+m->¬cf ((na+skp cf na i m k:Nat):Int) (i:Int)<0
 |0,k,h=>by rw[skp] at h;omega
 | m+1,k,h=>by
  rw[skp] at h⊢;split at h
  .rename_i F;rw[AP F];exact aKj cf na i m (k+1) (by omega)
  .rename_i F;rw[AB F];exact F
theorem wI (cf:Int->Int->Int) (na nb:Nat):∀i,mgK cf na nb i<=nb
 |0=>Nat.zero_le _
 | i+1=>by
  have h:=wI cf na nb i;have:=aGT cf na i (nb-mgK cf na nb i) (mgK cf na nb i);rw[mgK];omega
theorem aET (cf:Int->Int->Int) (na nb i:Nat):mgK cf na nb i<=mgK cf na nb (i+1):=by
 rw[mgK];exact(aGT cf na i _ _).1
theorem aCf (cf:Int->Int->Int) (na nb:Nat):∀i,(mgI cf na nb i).length=i+mgK cf na nb i
 |0=>rfl
 | i+1=>by
  have:=aCf cf na nb i;have h2:=aET cf na nb i;rw[mgI];simp only[AQ,Cf,yX,this];omega
theorem aFO (cf:Int->Int->Int) (na nb:Nat):∀i,(mgI cf na nb i).Perm (rng 0 i++rng na (mgK cf na nb i))
 |0=>by simp[mgI,mgK,rng]
 | i+1=>by
  have F:=aFO cf na nb i;have h2:=aET cf na nb i;rw[mgI,aFD]
  have e:rng na (mgK cf na nb (i+1))=rng na (mgK cf na nb i)++rng (na+mgK cf na nb i) (mgK cf na nb (i+1)-mgK cf na nb i):=by
   rw[aEM];congr 1;omega
  rw[e];generalize rng (na+mgK cf na nb i) (mgK cf na nb (i+1)-mgK cf na nb i)=r at *
  generalize rng na (mgK cf na nb i)=q at *
  generalize rng 0 i=p at *
  generalize mgI cf na nb i=o at *
  rw[BU]
  calc o++r++[(i:Int)] |>.Perm (p++q++r++[(i:Int)]):=CW _ (CW _ F)
   _ |>.Perm (p++((q++r)++[(i:Int)])):=by rw[Bw,Bw,Bw]
   _ |>.Perm (p++([(i:Int)]++(q++r))):=List.Perm.append_left _ List.perm_append_comm
   _ |>.Perm (p++[(i:Int)]++(q++r)):=by rw[Bw]
theorem aK2 (n:Nat):iota n=rng 0 n:=by simp[iota,rng,DJ]
theorem aFP (cf:Int->Int->Int) (na nb:Nat):(mgF cf na nb).Perm (iota (na+nb)):=by
 have I:=aFO cf na nb na;have h2:=wI cf na nb na;unfold mgF;rw[aK2]
 have e:rng 0 (na+nb)=rng 0 na++rng na (mgK cf na nb na)++rng (na+mgK cf na nb na) (nb-mgK cf na nb na):=by
  have F:=aEM 0 na (mgK cf na nb na);have H:=aEM 0 (na+mgK cf na nb na) (nb-mgK cf na nb na);rw[BU] at F H;rw[F,H];congr 1;omega
 rw[e];exact CW _ I
theorem aMp (cf:Int->Int->Int) (na nb:Nat):(mgF cf na nb).length=na+nb:=by rw[(aFP cf na nb).length_eq,tF]
section
variable {cf:Int->Int->Int}{R:Int->Int->Prop}{na nb:Nat} (htr:∀x y z,R x y->R y z->R x z)
 (hlt:∀i j:Nat,i<na->j<nb->cf ((na+j:Nat):Int) (i:Int)<0->R ((na+j:Nat):Int) (i:Int))
 (hge:∀i j:Nat,i<na->j<nb->¬cf ((na+j:Nat):Int) (i:Int)<0->R (i:Int) ((na+j:Nat):Int))
 (hA:∀i j:Nat,i<j->j<na->R (i:Int) (j:Int)) (hB:∀i j:Nat,i<j->j<nb->R ((na+i:Nat):Int) ((na+j:Nat):Int))
include htr hlt hge hA hB
theorem aIe:∀i,i<=na->(mgI cf na nb i).Pairwise R∧(∀x,x∈mgI cf na nb i->∀j:Nat,i<=j->j<na->R x (j:Int))∧(∀x,x∈mgI cf na nb i->∀j:Nat,mgK cf na nb i<=j->j<nb->R x ((na+j:Nat):Int))
 |0,_=>⟨List.Pairwise.nil,λx F=>(by cases F),λx F=>(by cases F)⟩
 | i+1,hi=>by
  obtain⟨h1,h2,h3⟩:=aIe i (by omega);have hk:=aET cf na nb i;have hg:=wI cf na nb (i+1);have hf:=wI cf na nb i;have Z:∀j,mgK cf na nb i<=j->j<mgK cf na nb (i+1)->cf ((na+j:Nat):Int) (i:Int)<0:=λj a b=>aKi cf na i _ _ j a (by rw[mgK] at b;exact b)
  have hc:mgK cf na nb (i+1)<nb->¬cf ((na+mgK cf na nb (i+1):Nat):Int) (i:Int)<0:=λh=>by
   have:=aKj cf na i (nb-mgK cf na nb i) (mgK cf na nb i);rw[mgK] at h⊢;exact this (by omega)
  rw[mgI];generalize hK:mgK cf na nb i=k at *
  generalize hd:mgK cf na nb (i+1)=k' at *
  have Y:∀x,x∈rng (na+k) (k'-k)->∃j,k<=j∧j<k'∧x=((na+j:Nat):Int):=λx F=>by
   obtain⟨j,a,b,rfl⟩:=aH4 F;exact⟨j-na,by omega,by omega,by congr 1;omega⟩
  have I:∀x,x∈rng (na+k) (k'-k)->R x (i:Int):=λx F=>by
   obtain⟨j,a,b,rfl⟩:=Y x F;exact hlt i j (by omega) (by omega) (Z j a b)
  have H:∀j:Nat,i<j->j<na->R (i:Int) (j:Int):=λj a b=>hA i j a b
  have L:∀j:Nat,k'<=j->j<nb->R (i:Int) ((na+j:Nat):Int):=λj a b=>by
   have h0:=hge i k' (by omega) (by omega) (hc (by omega));by_cases hj:j=k'
   .subst hj;exact h0
   .exact htr _ _ _ h0 (hB k' j (by omega) b)
  have O:∀x,x∈mgI cf na nb i->R x (i:Int):=λx F=>h2 x F i (Ar _) (by omega)
  have U:∀x,x∈mgI cf na nb i->∀y,y∈rng (na+k) (k'-k)->R x y:=λx F y J=>by
   obtain⟨j,a,b,rfl⟩:=Y y J;exact h3 x F j a (by omega)
  refine⟨?_,?_,?_⟩
  .rw[Bp,Bp];refine⟨⟨h1,?_,U⟩,List.pairwise_singleton _ _,λx F y J=>?_⟩
   .unfold rng;rw[List.pairwise_map];refine List.Pairwise.imp_of_mem (R:=λa b=>a<b) ?_ List.pairwise_lt_range';intro a b ha hb he;obtain⟨a1,a2⟩:=Dx.1 ha;obtain⟨b1,b2⟩:=Dx.1 hb;have:=hB (a-na) (b-na) (by omega) (by omega)
    rwa [show na+(a-na)=a by omega,show na+(b-na)=b by omega] at this
   .rw[Au] at J;subst J;rcases Bf.1 F with F|F
    .exact O x F
    .exact I x F
  .intro x F j a b;rcases Bf.1 F with F|F
   .rcases Bf.1 F with F|F
    .exact h2 x F j (by omega) b
    .exact htr _ _ _ (I x F) (H j (by omega) b)
   .rw[Au] at F;subst F;exact H j (by omega) b
  .intro x F j a b;rcases Bf.1 F with F|F
   .rcases Bf.1 F with F|F
    .exact h3 x F j (by omega) b
    .obtain⟨j',a',b',rfl⟩:=Y x F;exact hB j' j (by omega) b
   .rw[Au] at F;subst F;exact L j a b
theorem aMo:(mgF cf na nb).Pairwise R:=by
 obtain⟨F,h2,H⟩:=aIe htr hlt hge hA hB na (Ar _);unfold mgF;rw[Bp];refine⟨F,?_,λx U y Y=>?_⟩
 .unfold rng;rw[List.pairwise_map];refine List.Pairwise.imp_of_mem (R:=λa b=>a<b) ?_ List.pairwise_lt_range';intro a b I L J;obtain⟨Z,a2⟩:=Dx.1 I;obtain⟨b1,b2⟩:=Dx.1 L;have O:=wI cf na nb na;have:=hB (a-na) (b-na) (by omega) (by omega)
  rwa [show na+(a-na)=a by omega,show na+(b-na)=b by omega] at this
 .obtain⟨j,a,b,rfl⟩:=aH4 Y;have O:=wI cf na nb na;have:=H x U (j-na) (by omega) (by omega)
  rwa [show na+(j-na)=j by omega] at this
end
theorem aKz {R:Nat->Nat->Prop} (htr:∀x y z,R x y->R y z->R x z) {n:Nat} (h:∀i,i+1<n->R i (i+1)):∀i j,i<j->j<n->R i j:=by
 intro i j H F;obtain⟨d,rfl⟩:∃d,j=i+1+d:=⟨j-(i+1),by omega⟩
 induction d with
 |zero=>exact h i F
 |succ d ih=>exact htr _ _ _ (ih (by omega) (by omega)) (h (i+1+d) F)
theorem aIH {a b:List (List Int)}{i:Nat} (h:i<a.length):(a++b).getD i []=a.getD i []:=by simp[List.getD,BB h]
theorem aIG {a b:List (List Int)} (j:Nat):(a++b).getD (a.length+j) []=b.getD j []:=by
 simp only[List.getD];rw[Bi (by omega),Nat.add_sub_cancel_left]
theorem aNN {fr to:Int}{a b:List (List Int)} (F:∀c,c∈a++b->okF fr to c) (hl:a.length+b.length<=40) (U:gN fr to a=true) (Y:gN fr to b=true) :
  mgF (cfO fr to (a++b)) a.length b.length=dR fr to (a++b):=by
 have I:(a++b).length=a.length+b.length:=by simp
 obtain⟨O,h2⟩:=aCQ F (by omega);rw[I] at O;have hin:∀i:Nat,i<a.length+b.length->inO (a++b).length (i:Int):=λi hi=>⟨by omega,by omega⟩
 have H:∀i j:Nat,i<j->j<a.length+b.length->¬cfO fr to (a++b) (j:Int) (i:Int)<0->xV fr to (a++b) (i:Int) (j:Int):=by
  intro i j Z L J;have e:=aCp F (hin i (by omega)) (hin j L);refine⟨⟨hin i (by omega),hin j L⟩,?_⟩;by_cases h0:cfO fr to (a++b) (i:Int) (j:Int)=0
  .exact .inr ⟨h0,by omega⟩
  .exact .inl (by omega)
 have hA:∀i j:Nat,i<j->j<a.length->xV fr to (a++b) (i:Int) (j:Int):=by
  refine aKz (R:=λi j=>xV fr to (a++b) (i:Int) (j:Int)) (λx y z=>mJ F _ _ _) λi hi=>?_;refine H i (i+1) (by omega) (by omega) ?_;have:=aLD U i hi;unfold cfO;rw[BP,BP,aIH hi,aIH (by omega)];exact this
 have hB:∀i j:Nat,i<j->j<b.length->xV fr to (a++b) ((a.length+i:Nat):Int) ((a.length+j:Nat):Int):=by
  refine aKz (R:=λi j=>xV fr to (a++b) ((a.length+i:Nat):Int) ((a.length+j:Nat):Int)) (λx y z=>mJ F _ _ _) λi hi=>?_;refine H _ _ (by omega) (by omega) ?_;have:=aLD Y i hi;unfold cfO;rw[BP,BP,aIG,aIG];exact this
 refine aEF (mJ F) (aBm F) ((aFP _ _ _).trans O.symm) (aMo (mJ F) (λi j hi L J=>?_) (λi j hi L J=>?_) hA hB) h2
 .exact⟨⟨hin _ (by omega),hin _ (by omega)⟩,.inl J⟩
 .exact H i _ (by omega) (by omega) J
end
section
variable [Vs.Envs]
attribute [local irreducible] Vs.Fn bK aO bL bM l03 chB rk cd3 chI stp aP
def fM (fr to:Int) (l:List (List Int)):Int:=l.foldl (λa c=>IntKind.i64.wrap (a+(lT fr to c).1)) 0
def tX (fr to:Int) (l:List (List Int)):Bool:=l.all λc=>(lT fr to c).2
theorem aIV {fr to:Int}{l:List (List Int)}{i:Nat} (h:i<l.length):fM fr to (l.take (i+1))=IntKind.i64.wrap (fM fr to (l.take i)+(lT fr to l[i]).1):=by
 unfold fM;rw[aY h,List.foldl_append];rfl
def aAx (fr to:Int) (l:List (List Int)):AV:=if tX fr to l then .sl 1 (E cI [fM fr to l]) else .v (.slice none 0 0)
attribute [local irreducible] fM lT
attribute [local go_sem] cFd aH Af Ag Al Aq Ae Ai Ac Ak Ab Ah Am Aw in
theorem aEE (l:List (List Int)) (fr to:Int) (ho:∀c,c∈l->okP fr to c) (hl:l.length<=1048576):Fz F.vK [.sl 2 [[.v (.int .i64 fr),.v (.int .i64 to)]],.sl 1 (E cC l)] (.tup [aAx fr to l,.v (.bool (tX fr to l))]):=by
 refine fn0 Cd.i_sumsOf_k λX=>?_
 repeat' first|simp -dsimp only[go_sem,cC]|apply Br.mk<;>intro h<;>try simp -dsimp only[h]|refine aC ?_|fail
 refine aM.at dM (X:={zz:Nat×(Unit) // zz.1<=1∧(zz.1=1->tX fr to l=true)}) (λzz=>[(6,.loc (.t 6 0) 0 zz.1.1),(17,.v (.int .i64 zz.1.1))]) (λzz=>[(.t 6 0,.arr 1 (E cI ([fM fr to l].take zz.1.1)) false)]) (λzz=>1-zz.1.1) ⟨(0,()),by omega,by intro h;cases h⟩ ?_ ?_
 .simp[Vs.LeL,Vs.look,aA,aS,aJ,Vs.hset,aK,Vs.E]
 .rintro⟨⟨i,_⟩,hi,hg⟩;dsimp only at hi hg;simp -dsimp only[go_sem,cC];refine Br.mk (λhc=>?_) λhc=>?_
  .have hlt:i<1:=Dq;have hw:=aG hlt (by omega);obtain rfl:i=0:=by omega
   repeat' first|simp -dsimp only[go_sem,cC]|apply Br.mk<;>intro h<;>try simp -dsimp only[h]|refine aC ?_|fail
   refine aM.at dM (X:={zz:Nat×(Unit) // zz.1<=l.length∧(l.take zz.1).all (λc=>(lT fr to c).2)=true}) (λzz=>[(9,.v (.int .i64 (fM fr to (l.take zz.1.1)))),(23,.v (.int .i64 zz.1.1))]) (λzz=>[]) (λzz=>l.length-zz.1.1) ⟨(0,()),by omega,by simp⟩ ?_ ?_
   .simp[Vs.LeL,Vs.look,aA,aS,aJ,Vs.hset,aK,fM]
   .rintro⟨⟨i,_⟩,hi,hg⟩;dsimp only at hi hg;simp -dsimp only[go_sem,cC];refine Br.mk (λhc=>?_) λhc=>?_
    .have hlt:i<l.length:=Dq;have hw:=aG hlt hl;have hm:(E cC l).getD i []=[.sl 1 (E cI l[i])]:=aN hlt;have NI:=aJa (ho _ (Aa hlt));have hss:=aIV (fr:=fr) (to:=to) hlt;cases hb:(lT fr to l[i]).2
     .rw[hb] at NI;have hna:tX fr to l=false:=gY (p:=λc=>(lT fr to c).2) hlt hb;have hv:aAx fr to l=.v (.slice none 0 0):=by simp[aAx,hna]
      repeat' first|simp -dsimp only[go_sem,hm,hw,cC]|apply Br.mk<;>intro h<;>try simp -dsimp only[h]|refine aB.c (by first|exact NI) ?_|refine aC ?_|fail
      all_goals first|omega|(rw[hv,hna];exact⟨_,_,rfl,rfl⟩)|(simp[hv,hna];done)
     .rw[hb] at NI;simp -dsimp only[go_sem,hm,hw,cC]
      repeat' first|simp -dsimp only[go_sem,hm,hw,←hss,cC]|apply Br.mk<;>intro h<;>try simp -dsimp only[h]|refine aB.c (by first|exact NI) ?_|refine aC ?_|fail
      all_goals first|omega|(exact nx (i+1,()) (bD (p:=λc=>(lT fr to c).2) hlt hg hb) (h2:=by simp[Vs.LeL,Vs.look,aA,aS,aJ,Vs.hset,aK,hss]))
    .have hge:i=l.length:=by
      have:¬i<l.length:=Dq;omega
     subst hge;simp -dsimp only[go_sem,cC];have hall:tX fr to l=true:=by simpa[tX] using hg
     have e01:IntKind.i64.wrap 1=1:=rfl;have hfull:l.take l.length=l:=Aj (Ar _);refine⟨⟨by decide,by decide,?_⟩,λh=>absurd rfl h⟩;exact⟨⟨(1,()),⟨by omega,λ_=>hall⟩⟩,by simp[Vs.LeL,Vs.look,aA,aS,aJ,Vs.hset,aK,hfull,e01,Vs.E,cI],by simp only;omega⟩
  .have hge:i=1:=by
    have:¬i<1:=Dq;omega
   subst hge;simp -dsimp only[go_sem,cC];have hall:=hg rfl;rw[hall,show aAx fr to l=.sl 1 (E cI [fM fr to l]) by simp[aAx,hall]];exact⟨⟨_,_,rfl,rfl⟩,λh=>h rfl⟩
end
section
variable [Vs.Envs]
attribute [local irreducible] Vs.Fn fM lT fI aV bK aO bL bM l03 chB rk cd3 chI stp aP
theorem aEe (a:List Int) (fr to:Int) (H:okF fr to a) (I:dC (fH fr to a)=true):Fz F.qM [.agg (cC a),.agg (cFd fr to)] (.v (.string (txt (fH fr to a)))):=by
 refine fn0 Cd.i_fieldText_k λX=>?_
 repeat' first|simp -dsimp only[go_sem,cC,cFd,fH_E,Af,Ag,Al,Aq,Ae,Ai,Ac,Ak,Ab,Ah,Am,Aw]|apply Br.mk<;>intro h<;>try simp -dsimp only[h]|refine RgK.mk rfl ?_|refine aB.c (by first|exact textOf _ (aA2 H) I) ?_|refine And.intro (by first|rfl|omega|decide|exact cB H|exact cB hb|exact⟨rfl,cB H⟩|exact⟨rfl,cB hb⟩|exact bC H|exact bC hb|exact⟨rfl,bC H⟩|exact⟨rfl,bC hb⟩|(refine⟨?_,?_⟩<;>(first|rfl|omega|decide|exact cB H|exact cB hb|exact⟨rfl,cB H⟩|exact⟨rfl,cB hb⟩|exact bC H|exact bC hb|exact⟨rfl,bC H⟩|exact⟨rfl,bC hb⟩))|(refine⟨?_,?_,?_⟩<;>(first|rfl|omega|decide|exact cB H|exact cB hb|exact⟨rfl,cB H⟩|exact⟨rfl,cB hb⟩|exact bC H|exact bC hb|exact⟨rfl,bC H⟩|exact⟨rfl,bC hb⟩))|(refine⟨?_,?_,?_,?_⟩<;>(first|rfl|omega|decide|exact cB H|exact cB hb|exact⟨rfl,cB H⟩|exact⟨rfl,cB hb⟩|exact bC H|exact bC hb|exact⟨rfl,bC H⟩|exact⟨rfl,bC hb⟩))) ?_|fail
 all_goals(simp_all)
theorem aC6 {fr to:Int}{l:List (List Int)}{g:List (List Int)} (h:g∈aA0 fr to l):0<g.length∧g.length<=l.length∧∀c,c∈g->c∈l:=by
 unfold aA0 at h;obtain⟨i,hi,rfl⟩:=Bq.1 h;have hi:=Cm.1 hi;have hin:=vR (fr:=fr) (to:=to) (l:=l) l.length;have H:=aAZ (fr:=fr) (to:=to) (l:=l) l.length;generalize aV fr to l l.length=s at *
 have h0:=hin _ (Aa hi);have e:s.getD i 0=s[i]:=by simp[List.getD,hi]
 unfold fI;rw[e];refine⟨?_,?_,λc J=>CE (C8 J)⟩
 .rw[Cg,BM];split
  .rename_i F;have L:=hin _ (Aa F);have I:s[i]<s[i+1]:=Dg.1 H i (i+1) hi F (by omega);rw[show s.getD (i+1) 0=s[i+1] by simp[List.getD,F]];omega
  .omega
 .rw[Cg,BM];omega
theorem aC7 (fr to:Int) (l:List (List Int)):(aA0 fr to l).length<=l.length:=by
 unfold aA0;rw[Bg,List.length_range];exact iU fr to l l.length
def cTt (t:ByteArray×Int):List AV:=[.v (.string t.1),.v (.int .i64 t.2)]
def jX (fr to sf st:Int) (l:List (List Int)):List (ByteArray×Int):=(aA0 fr to l).map λg=>(txt (fH fr to (g.getD 0 [])),fM sf st g)
def jS (fr to sf st:Int) (l:List (List Int)):Bool:=tX sf st l&&bV fr to l
def xB (fr to sf st:Int) (l:List (List Int)):AV:=if jS fr to sf st l then .sl 2 (E cTt (jX fr to sf st l)) else .v (.slice none 0 0)
attribute [local irreducible] aA0
attribute [local go_sem] aH Af Ag Al Aq Ae Ai Ac Ak Ab Ah Am Aw cD Au Vs.Name.t.injEq Ap Ao AX BH in
theorem aJP (l:List (List Int)) (fr to sf st:Int) (ho:∀c,c∈l->okF fr to c) (hp:∀c,c∈l->okP sf st c) (hl:l.length<=1048576):Fz F.mQ [.sl 1 (E cC l),.agg (cFd fr to),.agg (cFd sf st)] (.tup [xB fr to sf st l,.v (.int .i64 (if jS fr to sf st l then 0 else 8))]):=by
 have SO:=aEE l sf st hp hl;have HF:=pR l fr to ho hl;have GR:=groups l fr to ho hl;cases hN:tX sf st l
 .rw[hN] at SO;have hb:jS fr to sf st l=false:=by simp[jS,hN]
  rw[show xB fr to sf st l=.v (.slice none 0 0) by simp[xB,hb],hb];refine fn0 Cd.i_totalsOf_k λX=>?_
  repeat' first|simp -dsimp only[go_sem,cC,cFd]|apply Br.mk<;>intro h<;>try simp -dsimp only[h]|refine aB.c (by first|exact SO|exact HF) ?_|refine aC ?_|fail
  all_goals first|exact⟨_,_,rfl,rfl⟩|simp
 rw[hN] at SO;cases hC:bV fr to l
 .rw[hC] at HF;have hb:jS fr to sf st l=false:=by simp[jS,hC]
  rw[show xB fr to sf st l=.v (.slice none 0 0) by simp[xB,hb],hb];refine fn0 Cd.i_totalsOf_k λX=>?_
  repeat' first|simp -dsimp only[go_sem,cC,cFd]|apply Br.mk<;>intro h<;>try simp -dsimp only[h]|refine aB.c (by first|exact SO|exact HF) ?_|refine aC ?_|fail
  all_goals first|exact⟨_,_,rfl,rfl⟩|simp
 rw[hC] at HF;have hb:jS fr to sf st l=true:=by simp[jS,hN,hC]
 rw[show xB fr to sf st l=.sl 2 (E cTt (jX fr to sf st l)) by simp[xB,hb],hb];have hgm:∀g,g∈aA0 fr to l->0<g.length∧g.length<=l.length∧∀c,c∈g->c∈l:=λg hg=>aC6 hg;have hGl:=aC7 fr to l;unfold jX;generalize aA0 fr to l=G at *
 refine fn0 Cd.i_totalsOf_k λX=>?_
 repeat' first|simp -dsimp only[go_sem,cC,cFd]|apply Br.mk<;>intro h<;>try simp -dsimp only[h]|refine aB.c (by first|exact SO|exact HF|exact GR) ?_|refine aC ?_|fail
 refine aM.at dM (X:={zz:Nat×(Unit) // zz.1<=G.length∧True}) (λzz=>[(10,.loc (.t 10 0) 0 zz.1.1),(35,.v (.int .i64 zz.1.1))]) (λzz=>[(.t 10 0,.arr 2 (E cTt ((G.take zz.1.1).map λg=>(txt (fH fr to (g.getD 0 [])),fM sf st g))) false)]) (λzz=>G.length-zz.1.1) ⟨(0,()),by omega,trivial⟩ ?_ ?_
 .simp[Vs.LeL,Vs.look,aA,aS,aJ,Vs.hset,aK,Vs.E]
 .rintro⟨⟨i,_⟩,hi,hg⟩;dsimp only at hi hg;simp -dsimp only[go_sem,cC,cFd];refine Br.mk (λhc=>?_) λhc=>?_
  .have hlt:i<G.length:=Dq;have hw:=aG hlt (by omega);obtain⟨g0,g1,g2⟩:=hgm _ (Aa hlt);have hgi:(E cD G).getD i []=[.sl 1 (E cC G[i])]:=aN hlt;have SG:=aEE G[i] sf st (λc hc=>hp c (g2 c hc)) (by omega);have hNg:tX sf st G[i]=true:=Az.2 λc hc=>Az.1 hN c (g2 c hc);rw[show aAx sf st G[i]=.sl 1 (E cI [fM sf st G[i]]) by simp[aAx,hNg],hNg] at SG;have hm0:G[i].getD 0 []∈G[i]:=by rw[show G[i].getD 0 []=G[i][0] by simp[List.getD,g0]];exact Aa g0
   have hg0:(E cC G[i]).getD 0 []=[.sl 1 (E cI (G[i].getD 0 []))]:=by rw[aN g0];simp[cC,List.getD,g0]
   have FT:=aEe (G[i].getD 0 []) fr to (ho _ (g2 _ hm0)) (Az.1 hC _ (g2 _ hm0));have hs0:(E cI [fM sf st G[i]]).getD 0 []=[.v (.int .i64 (fM sf st G[i]))]:=rfl
   have hap:E cTt ((G.take i).map λg=>(txt (fH fr to (g.getD 0 [])),fM sf st g))++[[.v (.string (txt (fH fr to (G[i].getD 0 [])))),.v (.int .i64 (fM sf st G[i]))]]=E cTt ((G.take (i+1)).map λg=>(txt (fH fr to (g.getD 0 [])),fM sf st g)):=by
    rw[aY hlt,Bu,bH];rfl
   have hal:(E cTt ((G.take i).map λg=>(txt (fH fr to (g.getD 0 [])),fM sf st g))).length=i:=by rw[aH];simp;omega
   simp -dsimp only[go_sem,hgi,hg0,hs0,hw,hal,cC,cFd]
   repeat' first|simp -dsimp only[go_sem,hgi,hg0,hs0,hw,hap,hal,cC,cFd]|apply Br.mk<;>intro h<;>try simp -dsimp only[h]|refine aB.c (by first|exact SG|exact FT) ?_|refine aC ?_|fail
   all_goals first|omega|(exact nx (i+1,()) trivial (h2:=by simp[Vs.LeL,Vs.look,aA,aS,aJ,Vs.hset,aK,hap]))
  .have hge:i=G.length:=by
    have:¬i<G.length:=Dq;omega
   subst hge;simp -dsimp only[go_sem,cC,cFd]
   have htk:(E cTt ((G.take G.length).map λg=>(txt (fH fr to (g.getD 0 [])),fM sf st g))).take G.length=E cTt (G.map λg=>(txt (fH fr to (g.getD 0 [])),fM sf st g)):=by
    rw[Aj (Ar G.length)];exact Aj (by rw[aH];simp)
   first|exact⟨⟨_,_,rfl,rfl⟩,λh=>h rfl⟩|(rw[htk];exact⟨⟨_,_,rfl,rfl⟩,λh=>h rfl⟩)|(simp[htk];done)
end
section
variable [Vs.Envs]
attribute [local irreducible] Vs.Fn bK aO bL bM l03 chB rk cd3 chI stp aP
theorem aOa (w:Nat) (I:w<=1000):Vs.Fn Tryz.prog F.zG [] [.v (.int .i64 w)] (.agg [.loc (.b 0) 0 w]) [some (.arr 1 (List.replicate w [.v (.int .i64 0)]) false)]:=by
 have H:((w:Int)).toNat=w:=by omega
 refine fn1 Cd.i_blank_k [.t 4 0] [.arr 1 (List.replicate w [.v (.int .i64 0)]) false] λX=>?_;unfold Cd.zG
 repeat' first|simp -dsimp only[go_sem,aH,Ac,Ak,Ab,Ah,Am,List.length_replicate,BF,BG,l8,sF,lU,Aw,Be,Ai,Ae,H]|apply Br.mk<;>intro h<;>try simp -dsimp only[h]|refine aC ?_|fail
 all_goals first|exact⟨_,_,rfl,rfl⟩
def bcd (s:ByteArray):List Int:=s.data.toList.map λb=>cd3 (b.toNat:Int)
def qE (s:ByteArray) (w i:Nat):List Int:=(bcd s).take i++List.replicate (w-i) 0
def pun (s:ByteArray) (w:Nat):List Int:=bcd s++List.replicate (w-s.size) 0
theorem aCq (s:ByteArray):(bcd s).length=s.size:=by simp[bcd]
theorem aGZ (s:ByteArray) (w:Nat):E cI (qE s w 0)=List.replicate w [.v (.int .i64 0)]:=by simp[qE,E,cI]
theorem aCM (s:ByteArray) (w:Nat):qE s w s.size=pun s w:=by
 unfold qE pun;rw[Aj (by rw[aCq];exact Ar _)]
theorem yZ {s:ByteArray}{w i:Nat} (h:i<=s.size) (F:s.size<=w):(qE s w i).length=w:=by
 have:=aCq s;simp[qE];omega
theorem aI9 {s:ByteArray}{w i:Nat} (h:i<s.size) (O:s.size<=w):(E cI (qE s w i)).set i [.v (.int .i64 (cd3 ((s.data.toList.getD i 0).toNat:Int)))]=E cI (qE s w (i+1)):=by
 have L:=aCq s;have F:i<(bcd s).length:=by omega
 have hA:((bcd s).take i).length=i:=by simp;omega
 have J:(bcd s)[i]=cd3 ((s.data.toList.getD i 0).toNat:Int):=by
  have H:i<s.data.toList.length:=by simpa[bcd] using F
  have I:s.data.toList.getD i 0=s.data.toList[i]:=by rw[A8,Ba H];rfl
  rw[I];simp[bcd]
 have e:(qE s w i).set i (cd3 ((s.data.toList.getD i 0).toNat:Int))=qE s w (i+1):=by
  unfold qE;rw[show w-i=(w-(i+1))+1 by omega,Af,List.set_append,AB (by omega),hA,Cw,Ac,aY F,J];simp
 rw[←e];simp[E,De,cI]
attribute [local irreducible] qE
attribute [local go_sem] aH Ac Ak Ab Ah Am List.length_replicate BF BG l8 sF lU Aw Be Ai Ae in
theorem aI8 (s:ByteArray) (w:Nat) (hw:w<=1000) (hs:s.size<=w):Fz F.qL [.v (.string s),.v (.int .i64 w)] (.agg [.sl 1 (E cI (pun s w))]):=by
 have BL:=aOa w hw;refine fn0 Cd.i_punchText_k λX=>?_;simp -dsimp only[go_sem];refine aB.own BL rfl ?_
 repeat' first|simp -dsimp only[go_sem]|apply Br.mk<;>intro h<;>try simp -dsimp only[h]|refine aC ?_|fail
 refine aM.at dM (X:={zz:Nat×(Unit) // zz.1<=s.size∧True}) (λzz=>[(6,.v (.int .i64 zz.1.1))]) (λzz=>[(.t 8 0,.arr 1 (E cI (qE s w zz.1.1)) false)]) (λzz=>s.size-zz.1.1) ⟨(0,()),by omega,trivial⟩ ?_ ?_
 .simp[Vs.LeL,Vs.look,aA,aS,aJ,Vs.hset,aK,aGZ]
 .rintro⟨⟨i,_⟩,hi,hg⟩;dsimp only at hi hg;simp -dsimp only[go_sem];refine Br.mk (λhc=>?_) λhc=>?_
  .have hlt:i<s.size:=Dq;have hw:=aG hlt (by omega);have hps:=aI9 (w:=w) hlt hs;have hpl:(E cI (qE s w i)).length=w:=by rw[aH];exact yZ (by omega) hs
   have CO:=codeOf ((s.data.toList.getD i 0).toNat:Int)
   have hrow:∃y,(E cI (qE s w i)).getD i []=[y]:=by
    have hil:i<(qE s w i).length:=by rw[yZ (by omega) hs];omega
    exact⟨.v (.int .i64 (qE s w i)[i]),by rw[aN hil];rfl⟩
   obtain⟨y,hy⟩:=hrow
   repeat' first|simp -dsimp only[go_sem,hw,hps,hpl,hy]|apply Br.mk<;>intro h<;>try simp -dsimp only[h]|refine aB.c (by first|exact CO) ?_|refine aC ?_|fail
   all_goals first|omega|(exact nx (i+1,()) trivial (h2:=by simp[Vs.LeL,Vs.look,aA,aS,aJ,Vs.hset,aK,hps]))
  .have hge:i=s.size:=by
    have:¬i<s.size:=Dq;omega
   subst hge;simp -dsimp only[go_sem];have hpf:=aCM s w;have hpl:(E cI (pun s w)).length=w:=by rw[aH,←hpf];exact yZ (Ar _) hs
   have htk:(E cI (pun s w)).take w=E cI (pun s w):=Aj (by omega)
   first|(rw[hpf,htk];exact⟨⟨_,_,rfl,rfl⟩,λh=>h rfl⟩)|(simp[hpf,htk];done)
end
section
variable [Vs.Envs]
attribute [local irreducible] Vs.Fn pun bK aO bL bM l03 chB rk cd3 chI stp aP
theorem aMf {s:ByteArray}{w:Nat} (h:s.size<=w):(pun s w).length=w:=by rw[←aCM];exact yZ (Ar _) h
def cmT (fr to:Int) (c:List Int) (s:ByteArray):Int:=jC (fH fr to c) (pun s (to.toNat-fr.toNat))
theorem aGo (a:List Int) (fr to:Int) (s:ByteArray) (H:okF fr to a) (I:s.size<=to.toNat-fr.toNat):Fz F.jO [.agg (cC a),.agg (cFd fr to),.v (.string s)] (.v (.int .i64 (cmT fr to a s))):=by
 have U:=lN H;have O:=H;obtain⟨h0,Z,h2,L⟩:=O;have J:=aI8 s (to.toNat-fr.toNat) (by omega) I;have Y:IntKind.i64.wrap (to-fr)=((to.toNat-fr.toNat:Nat):Int):=by rw[aR (by omega) (by omega)];omega
 have CH:=aA4 (fH fr to a) (pun s (to.toNat-fr.toNat)) (aA2 H) (by rw[U,aMf I]);rw[show jC (fH fr to a) (pun s (to.toNat-fr.toNat))=cmT fr to a s from rfl] at CH;refine fn0 Cd.i_compareText_k λX=>?_
 repeat' first|simp -dsimp only[go_sem,cC,cFd,fH_E,Ac,Ak,Ab,Ah,Y]|apply Br.mk<;>intro h<;>try simp -dsimp only[h]|refine RgK.mk rfl ?_|refine aB.c (by first|exact J|exact CH) ?_|refine And.intro (by first|rfl|omega|decide|exact cB H|exact⟨rfl,cB H⟩|exact bC H|exact⟨rfl,bC H⟩|(refine⟨?_,?_⟩<;>(first|rfl|omega|decide|exact cB H|exact⟨rfl,cB H⟩|exact bC H|exact⟨rfl,bC H⟩))|(refine⟨?_,?_,?_⟩<;>(first|rfl|omega|decide|exact cB H|exact⟨rfl,cB H⟩|exact bC H|exact⟨rfl,bC H⟩))|(refine⟨?_,?_,?_,?_⟩<;>(first|rfl|omega|decide|exact cB H|exact⟨rfl,cB H⟩|exact bC H|exact⟨rfl,bC H⟩))) ?_|fail
 all_goals first|exact⟨_,_,rfl,rfl⟩|simp
end
section
variable [Vs.Envs]
attribute [local irreducible] Vs.Fn pun cmT flt zR bK aO bL bM l03 chB rk cd3 chI stp aP
def dI (fr to:Int) (s:ByteArray) (c:List Int):Bool:=decide (cmT fr to c s<0)||decide (cmT fr to c s>0)
theorem sel1 (x:List Int) (fr to:Int) (s:ByteArray) (J:okF fr to x) (I:s.size<=to.toNat-fr.toNat):Fz F.dG [.agg (cC x),.ro (cFd fr to),.ro [.v (.string s)],.ro [.v (.string s)]] (.v (.bool (dI fr to s x))):=by
 have H:=aGo x fr to s J I;unfold dI;generalize cmT fr to x s=v at *
 refine fn0 Cd.i_SelectBetween_1_k λX=>?_
 repeat' first|simp -dsimp only[go_sem,cC,cFd,Af,Ag,Al,Aq,Ae,Ai,Ac,Ak,Ab,Ah,Am]|apply Br.mk<;>intro h<;>try simp -dsimp only[h]|refine aB.c (by first|exact H) ?_|refine aC ?_|fail
 all_goals first|exact⟨_,_,rfl,rfl⟩|(rw[h,Di];exact⟨_,_,rfl,rfl⟩)
def iM (fr to:Int) (s:ByteArray) (l:List (List Int)):Int:=yJ fr to [s,s] [l]
def uK (fr to:Int) (s:ByteArray) (l:List (List Int)):AV:=if iM fr to s l=0 then .sl 1 (E cC (flt (dI fr to s) l)) else .v (.slice none 0 0)
theorem aEJ {fr to:Int}{s:ByteArray}{l:List (List Int)} (h:iM fr to s l=0):bF l=true∧dZ fr to (bJ l)=true∧((s.size:Int)==W (to-fr))=true∧aO s=true∧bV fr to l=true:=by
 unfold iM yJ at h;cases h1:bF l<;>cases h2:dZ fr to (bJ l)<;>cases h3:((s.size:Int)==W (to-fr))<;>cases h4:aO s<;>cases h5:bV fr to l<;>simp[h1,h2,h3,h4,h5] at h⊢
attribute [local go_sem] Af Ag Al Aq Ae Ai Ac Ak Ab Ah Am in
theorem aDB (l:List (List Int)) (fr to:Int) (s:ByteArray) (J:aZ l) (hz:s.size<=1048576):Fz F.dW [.sl 1 (E cC l),.agg (cFd fr to),.v (.string s),.v (.string s)] (.tup [uK fr to s l,.v (.int .i64 (iM fr to s l))]):=by
 have H:=aGp fr to [l] ⟨by simp,λd I=>by simp at I;subst I;exact J⟩ [s,s] (by simp) (λt ht=>by simp at ht;subst ht;exact hz);rw[show yJ fr to [s,s] [l]=iM fr to s l from rfl] at H;by_cases h0:iM fr to s l=0
 .obtain⟨I,hf,Y,hc,ha⟩:=aEJ h0;have ho:=dF I hf;rw[show uK fr to s l=.sl 1 (E cC (flt (dI fr to s) l)) by simp[uK,h0],h0];rw[h0] at H
  have U:∀x,x∈l->s.size<=to.toNat-fr.toNat:=λx L=>by
   have Z:((s.size:Int))=W (to-fr):=by simpa using Y
   obtain⟨f0,f1,f2,f3⟩:=ho x L;rw[show W (to-fr)=to-fr from aR (by omega) (by omega)] at Z;omega
  have O:=delF (dI fr to s) F.dG [.ro (cFd fr to),.ro [.v (.string s)],.ro [.v (.string s)]] rfl l J.1 (λx L=>sel1 x fr to s (ho x L) (U x L));refine fn0 Cd.i_SelectBetween_k λX=>?_
  repeat' first|simp -dsimp only[go_sem,cC,cFd]|apply Br.mk<;>intro h<;>try simp -dsimp only[h]|refine aB.c (by first|exact H) ?_|refine aC ?_|fail
  refine aB.own (aEQ l J.2 J.1) rfl ?_;simp -dsimp only[go_sem,cC,cFd,BF,BG,l8,sF,lU,Aw,Be,Au,Ap,Ao,AX,BH,Vs.Name.t.injEq];refine⟨rfl,aB.borL O rfl ?_⟩;simp -dsimp only[go_sem,cC,cFd,BF,BG,l8,sF,lU,Aw,Be,Au,Ap,Ao,AX,BH,Vs.Name.t.injEq];have hr:=aFC (flt (dI fr to s) l) (l.length-(flt (dI fr to s) l).length);have hb:(flt (dI fr to s) l).length<=l.length:=zM ..
  simp -dsimp only[go_sem,AJ,Cn,aH,AQ,hr]
  first|exact⟨_,_,rfl,rfl⟩
 .have e0:(iM fr to s l != 0)=true:=by simp[h0]
  rw[show uK fr to s l=.v (.slice none 0 0) by simp[uK,h0]];generalize iM fr to s l=c at *
  refine fn0 Cd.i_SelectBetween_k λX=>?_
  repeat' first|simp -dsimp only[go_sem,cC,cFd,e0]|apply Br.mk<;>intro h<;>try simp -dsimp only[h]|refine aB.c (by first|exact H) ?_|refine aC ?_|fail
  all_goals first|exact⟨_,_,rfl,rfl⟩
theorem aBu (l:List (List Int)) (fr to:Int) (s:ByteArray) (J:aZ l) (L:s.size<=1048576):Fz F.gI [.sl 1 (E cC l),.agg (cFd fr to),.v (.string s)] (.tup [uK fr to s l,.v (.int .i64 (iM fr to s l))]):=by
 have I:=aDB l fr to s J L;have H:uK fr to s l=.sl 1 (E cC (flt (dI fr to s) l))∨uK fr to s l=.v (.slice none 0 0):=by unfold uK;split<;>simp
 generalize iM fr to s l=c at *
 rcases H with H|H<;>rw[H] at I⊢
 all_goals
  refine fn0 Cd.i_SelectEqual_k λX=>?_
  repeat' first|simp -dsimp only[go_sem,cC,cFd,Af,Ag,Al,Aq,Ae,Ai,Ac,Ak,Ab,Ah,Am]|apply Br.mk<;>intro h<;>try simp -dsimp only[h]|refine aB.c (by first|exact I) ?_|refine aC ?_|fail
  all_goals first|exact⟨_,_,rfl,rfl⟩
end
section
variable [Vs.Envs]
attribute [local irreducible] Vs.Fn pun cmT flt zR bK aO bL bM l03 chB rk cd3 chI stp aP
end
section
variable [Vs.Envs]
attribute [local irreducible] Vs.Fn pun cmT zR bK aO bL bM l03 chB rk cd3 chI stp aP
theorem aEP {l:List (List Int)}{fr to:Int} (I:bF l=true) (H:zT fr to (bJ l)=true):∀c,c∈l->okP fr to c:=by
 intro c J;unfold zT at H;rw[Av] at H;obtain⟨h0,O,h2,U⟩:=dF I H.1 c J;have L:=H.2;rw[show W (to-fr)=to-fr from aR (by omega) (by omega)] at L;simp only[bF,Av,Az,Bb] at I;obtain⟨F,Y⟩:=I.1 c J;simp only[iL,inB,Av,Az,Bb] at F;exact⟨h0,O,h2,by simpa using L,U,λy Z=>F.1 y Z⟩
theorem aFt {fr to:Int}{l:List (List Int)} (I:∀c,c∈l->okF fr to c) (H:l.length<=40):∀c,c∈iP fr to l->c∈l:=by
 intro c F;obtain⟨i,hi,rfl⟩:=Bq.1 F;exact nO (aCc I H i hi)
theorem aFu (fr to:Int) (l:List (List Int)):(iP fr to l).length=l.length:=by unfold iP;rw[Bg,u7]
end
section
variable [Vs.Envs]
attribute [local irreducible] Vs.Fn bK aO bL bM l03 chB rk cd3 chI stp aP
attribute [local go_sem] cFd aH Af Ag Al Aq Ae Ai Ac Ak Ab Ah Am in
theorem aEY (l:List (List Int)) (hk:aZ l):Fz F.rU [.sl 1 (E cC l)] (.sl 1 (E cC l)):=by
 refine fn0 Cd.s_l02Copy_k λX=>?_
 repeat' first|simp -dsimp only[go_sem,cC]|apply Br.mk<;>intro h<;>try simp -dsimp only[h]|refine aC ?_|fail
 refine aM.at dM (X:={zz:Nat×(Unit) // zz.1<=l.length∧True}) (λzz=>[(3,.loc (.t 3 0) 0 zz.1.1),(4,.v (.int .i64 zz.1.1))]) (λzz=>[(.t 3 0,.arr 1 (E cC (l.take zz.1.1)) false)]) (λzz=>l.length-zz.1.1) ⟨(0,()),by omega,trivial⟩ ?_ ?_
 .simp[Vs.LeL,Vs.look,aA,aS,aJ,Vs.hset,aK,Vs.E]
 .rintro⟨⟨i,_⟩,hi,hg⟩;dsimp only at hi hg;simp -dsimp only[go_sem,cC];refine Br.mk (λhc=>?_) λhc=>?_
  .have hlt:i<l.length:=Dq;have hw:=aG hlt (hk.1);have hm:(E cC l).getD i []=[.sl 1 (E cI l[i])]:=aN hlt;have NC:=x9 l[i] (hk.2 _ (Aa hlt));have hap:E cC (l.take i)++[[.sl 1 (E cI l[i])]]=E cC (l.take (i+1)):=by rw[aY hlt,bH];rfl
   have hal:(E cC (l.take i)).length=i:=by rw[aH];simp;omega
   have hl:=hk.1
   repeat' first|simp -dsimp only[go_sem,hm,hw,hap,hal,cC]|apply Br.mk<;>intro h<;>try simp -dsimp only[h]|refine aB.c (by first|exact NC) ?_|refine aC ?_|fail
   all_goals first|omega|(exact nx (i+1,()) trivial (h2:=by simp[Vs.LeL,Vs.look,aA,aS,aJ,Vs.hset,aK,hap]))
  .have hge:i=l.length:=by
    have:¬i<l.length:=Dq;omega
   subst hge;simp -dsimp only[go_sem,cC]
   have htk:(E cC (l.take l.length)).take l.length=E cC l:=by
    rw[Aj (Ar l.length)];exact Aj (by rw[aH];exact Ar _)
   first|exact⟨⟨_,_,rfl,rfl⟩,λh=>h rfl⟩|(rw[htk];exact⟨⟨_,_,rfl,rfl⟩,λh=>h rfl⟩)|(simp[htk];done)
end
section
variable [Vs.Envs]
attribute [local irreducible] Vs.Fn bK aO bL bM l03 chB rk cd3 chI stp aP stb dR mgK mgI skp gN stF bA iW
theorem aEn {l:List (List Int)}{i:Nat} (h:i<l.length):(E cC l).getD i []=[.sl 1 (E cI (l.getD i []))]:=by rw[aN h];simp[cC,List.getD,h]
theorem aF2 {fr to:Int}{l:List (List Int)}{i:Nat} (h:i<l.length):(E cSt (bS fr to l)).getD i []=[.v (.string (txt (fH fr to (l.getD i []))))]:=by
 rw[aN (by simpa[bS] using h)];simp[cSt,bS,List.getD,h]
theorem aCh {l:List (List Int)}{i:Nat} (h:i<l.length):l.getD i []∈l:=by rw[show l.getD i []=l[i] by simp[List.getD,h]];exact Aa h
theorem aHE (G:Int->List Int) (p:List Int) (x:Int):E cC (p.map G)++[[.sl 1 (E cI (G x))]]=E cC ((p++[x]).map G):=by rw[Bu,bH];rfl
attribute [local go_sem] cFd cD Af Ag Al Aq Ae Ai Ac Ak Ab Ah Am aH in
theorem aKV (a b:List (List Int)) (fr to:Int) (ha:aZ a) (hb:aZ b) (oa:∀c,c∈a->okF fr to c) (ob:∀c,c∈b->okF fr to c) (ca:bV fr to a=true) (cb:bV fr to b=true) (h40:a.length+b.length<=40) :
  Fz F.oK [.sl 1 (E cC a),.sl 1 (E cC b),.sl 1 (E cSt (bS fr to a)),.sl 1 (E cSt (bS fr to b))] (.sl 1 (E cC ((mgF (cfO fr to (a++b)) a.length b.length).map λi=>(a++b).getD i.toNat []))):=by
 have hkl:=vI fr to a;have hkm:=vI fr to b
 have hcmp:∀i k:Nat,i<a.length->k<b.length->Fz F.fP [.v (.string (txt (fH fr to (b.getD k [])))),.v (.string (txt (fH fr to (a.getD i []))))] (.v (.int .i64 (cfO fr to (a++b) ((a.length+k:Nat):Int) (i:Int)))):=by
  intro i k hi hk
  have e:cfO fr to (a++b) ((a.length+k:Nat):Int) (i:Int)=jC (fH fr to (b.getD k [])) (fH fr to (a.getD i [])):=by
   unfold cfO;rw[BP,BP,aIH hi,aIG];rfl
  rw[e];have m1:=aCh hi;have m2:=aCh hk;exact wM _ _ (aA2 (ob _ m2)) ((lN (ob _ m2)).trans (lN (oa _ m1)).symm) (Az.1 cb _ m2) (Az.1 ca _ m1)
 have gA:∀i:Nat,i<a.length->(λi:Int=>(a++b).getD i.toNat []) (i:Int)=a.getD i []:=λi hi=>by show(a++b).getD (i:Int).toNat []=_;rw[BP,aIH hi]
 have gB:∀j:Nat,(λi:Int=>(a++b).getD i.toNat []) ((a.length+j:Nat):Int)=b.getD j []:=λj=>by show(a++b).getD ((a.length+j:Nat):Int).toNat []=_;rw[BP,aIG]
 have hdr:∀k,k<=b.length->(rng (a.length+k) (b.length-k)).map (λi=>(a++b).getD i.toNat [])=b.drop k:=by
  intro k hk;apply List.ext_getElem
  .simp[yX]
  .intro j h1 h2;simp only[Bg,yX] at h1;simp only[rng,DF,List.getElem_range',List.getElem_drop,Nat.one_mul];have g2:=gB (k+j);simp only at g2;rw[show a.length+k+j=a.length+(k+j) by omega,g2];simp[List.getD,(by omega:k+j<b.length)]
 generalize(λi:Int=>(a++b).getD i.toNat [])=G at *
 generalize cfO fr to (a++b)=cf at *
 refine fn0 Cd.s_l09Merge_k λX=>?_
 repeat' first|simp -dsimp only[go_sem,cC,hkl,hkm]|apply Br.mk<;>intro h<;>try simp -dsimp only[h]|refine aC ?_|fail
 refine aM.at dM (X:={zz:Nat×(Unit) // zz.1<=a.length∧True}) (λzz=>[(9,.loc (.t 9 0) 0 (mgI cf a.length b.length zz.1.1).length),(10,.v (.int .i64 (mgK cf a.length b.length zz.1.1:Nat))),(11,.v (.int .i64 zz.1.1))]) (λzz=>[(.t 9 0,.arr 1 (E cC ((mgI cf a.length b.length zz.1.1).map G)) false)]) (λzz=>a.length-zz.1.1) ⟨(0,()),by omega,trivial⟩ ?_ ?_
 .simp[Vs.LeL,Vs.look,aA,aS,aJ,Vs.hset,aK,Vs.E,mgI,mgK]
 .rintro⟨⟨i,_⟩,hi,hg⟩;dsimp only at hi hg;simp -dsimp only[go_sem,cC,hkl,hkm];refine Br.mk (λhc=>?_) λhc=>?_
  .have hlt:i<a.length:=Dq;have hw:=aG hlt (by omega);have hki:=wI cf a.length b.length i;have hki1:=wI cf a.length b.length (i+1);have hkg:=aET cf a.length b.length i;have hli:=aCf cf a.length b.length i;have hli1:=aCf cf a.length b.length (i+1);have hs0:skp cf a.length i (b.length-mgK cf a.length b.length i) (mgK cf a.length b.length i)=mgK cf a.length b.length (i+1):=by rw[mgK]
   have hmI:mgI cf a.length b.length (i+1)=mgI cf a.length b.length i++rng (a.length+mgK cf a.length b.length i) (mgK cf a.length b.length (i+1)-mgK cf a.length b.length i)++[(i:Int)]:=by rw[mgI]
   have hga:=gA i hlt;have xa:=aF2 (fr:=fr) (to:=to) hlt;have xc:=aEn hlt;have hc20:(a.getD i []).length<=20:=(oa _ (aCh hlt)).2.2.2;have NA:=x9 (a.getD i []) (by omega);generalize hK:mgK cf a.length b.length i=k0 at *
   generalize hK1:mgK cf a.length b.length (i+1)=k1 at *
   generalize hO:mgI cf a.length b.length i=o at *
   generalize hO1:mgI cf a.length b.length (i+1)=o1 at *
   simp -dsimp only[go_sem,hw,cC,hkl,hkm];refine aM.at dM (X:={k:Nat // k0<=k∧k<=b.length∧skp cf a.length i (b.length-k) k=k1}) (λk=>[(9,.loc (.t 9 0) 0 (o.length+(k.1-k0))),(10,.v (.int .i64 (k.1:Nat))),(16,.junk)]) (λk=>[(.t 9 0,.arr 1 (E cC ((o++rng (a.length+k0) (k.1-k0)).map G)) false)]) (λk=>b.length-k.1) ⟨k0,Ar _,hki,hs0⟩ ?_ ?_
   .simp[Vs.LeL,Vs.look,aA,aS,aJ,Vs.hset,aK,Cw,aKp]
   .rintro⟨k,hk0,hkb,hks⟩
    try dsimp only at hk0 hkb hks
    by_cases hlk:k<b.length
    .have e1:decide ((k:Int)<(b.length:Int))=true:=by simp;omega
     have w1:IntKind.i64.wrap ((k:Int)+1)=((k+1:Nat):Int):=by rw[aR (by omega) (by omega)];omega
     rw[aKh hlk] at hks;have yb:=aF2 (fr:=fr) (to:=to) hlk;have yc:=aEn hlk;have HC:=hcmp i k hlt hlk;have hgb:=gB k;have hb20:(b.getD k []).length<=20:=(ob _ (aCh hlk)).2.2.2;have NB:=x9 (b.getD k []) (by omega);by_cases hneg:cf ((a.length+k:Nat):Int) (i:Int)<0
     .have e2:decide (cf ((a.length+k:Nat):Int) (i:Int)<0)=true:=A7 hneg;rw[AP hneg] at hks
      have hap:E cC ((o++rng (a.length+k0) (k-k0)).map G)++[[.sl 1 (E cI (b.getD k []))]]=E cC ((o++rng (a.length+k0) (k+1-k0)).map G):=by
       rw[show k+1-k0=(k-k0)+1 by omega,aFD,show a.length+k0+(k-k0)=a.length+k by omega,←Bw,←aHE,hgb]
      have hal:(E cC ((o++rng (a.length+k0) (k-k0)).map G)).length=o.length+(k-k0):=by rw[aH];simp[yX]
      have hsum:o.length+(k-k0)+1=o.length+(k+1-k0):=by omega
      repeat' first|simp -dsimp only[go_sem,e1,e2,w1,yb,yc,xa,xc,hap,hal,cC,hkl,hkm]|apply Br.mk<;>intro h<;>try simp -dsimp only[h]|refine aB.c (by first|exact HC|exact NB) ?_|refine aC ?_|fail
      all_goals first|omega|(refine⟨⟨k+1,by omega,by omega,hks⟩,?_,by simp only;omega⟩;simp[Vs.LeL,Vs.look,aA,aS,aJ,Vs.hset,aK,hsum])
     .have e2:decide (cf ((a.length+k:Nat):Int) (i:Int)<0)=false:=AO hneg;rw[AB hneg] at hks;subst hks
      have hap:E cC ((o++rng (a.length+k0) (k-k0)).map G)++[[.sl 1 (E cI (a.getD i []))]]=E cC (o1.map G):=by
       rw[hmI,←aHE,hga]
      have hal:(E cC ((o++rng (a.length+k0) (k-k0)).map G)).length=o.length+(k-k0):=by rw[aH];simp[yX]
      have hsum:o.length+(k-k0)+1=o1.length:=by omega
      repeat' first|simp -dsimp only[go_sem,e1,e2,w1,yb,yc,xa,xc,hap,hal,hw,hsum,cC,hkl,hkm]|apply Br.mk<;>intro h<;>try simp -dsimp only[h]|refine aB.c (by first|exact HC|exact NA) ?_|refine And.intro ?_ (λh=>absurd rfl h)|refine And.intro ?_ (λh=>absurd rfl h)|refine aC ?_|fail
      all_goals first|omega|(exact⟨⟨(i+1,()),by omega,trivial⟩,by simp[Vs.LeL,Vs.look,aA,aS,aJ,Vs.hset,aK,hsum,hO1,hK1],by simp only;omega⟩)
    .obtain rfl:k=b.length:=by omega
     have e1:decide ((b.length:Int)<(b.length:Int))=false:=by simp
     rw[aKg (by omega)] at hks;subst hks
     have hap:E cC ((o++rng (a.length+k0) (b.length-k0)).map G)++[[.sl 1 (E cI (a.getD i []))]]=E cC (o1.map G):=by
      rw[hmI,←aHE,hga]
     have hal:(E cC ((o++rng (a.length+k0) (b.length-k0)).map G)).length=o.length+(b.length-k0):=by rw[aH];simp[yX]
     have hsum:o.length+(b.length-k0)+1=o1.length:=by omega
     repeat' first|simp -dsimp only[go_sem,e1,xa,xc,hap,hal,hw,hsum,cC,hkl,hkm]|apply Br.mk<;>intro h<;>try simp -dsimp only[h]|refine aB.c (by first|exact NA) ?_|refine And.intro ?_ (λh=>absurd rfl h)|refine And.intro ?_ (λh=>absurd rfl h)|refine aC ?_|fail
     all_goals first|omega|(exact⟨⟨(i+1,()),by omega,trivial⟩,by simp[Vs.LeL,Vs.look,aA,aS,aJ,Vs.hset,aK,hsum,hO1,hK1],by simp only;omega⟩)
  .have hge:i=a.length:=by
    have:¬i<a.length:=Dq;omega
   subst hge;simp -dsimp only[go_sem,cC,hkl,hkm];have hka:=wI cf a.length b.length a.length;have hli:=aCf cf a.length b.length a.length;have hd2:=hdr _ hka
   have hfin:E cC ((mgI cf a.length b.length a.length).map G)++E cC (b.drop (mgK cf a.length b.length a.length))=E cC ((mgF cf a.length b.length).map G):=by
    rw[←hd2,←bH,←Bu];rfl
   have hfl:=aMp cf a.length b.length;have hdE:(E cC b).drop (mgK cf a.length b.length a.length)=E cC (b.drop (mgK cf a.length b.length a.length)):=by simp[E,CJ]
   have hdl:(b.drop (mgK cf a.length b.length a.length)).length=b.length-mgK cf a.length b.length a.length:=by simp
   have CP:=aEY (b.drop (mgK cf a.length b.length a.length)) ⟨by omega,λc hc=>by have:=(ob c (C8 hc)).2.2.2;omega⟩;have hal:(E cC ((mgI cf a.length b.length a.length).map G)).length=(mgI cf a.length b.length a.length).length:=by rw[aH];simp
   have hsum:(mgI cf a.length b.length a.length).length+(b.length-mgK cf a.length b.length a.length)=a.length+b.length:=by omega
   have htk:(E cC ((mgF cf a.length b.length).map G)).take (a.length+b.length)=E cC ((mgF cf a.length b.length).map G):=Aj (by rw[aH,Bg];omega);generalize mgF cf a.length b.length=mf at *
   generalize mgK cf a.length b.length a.length=k at *
   generalize mgI cf a.length b.length a.length=o at *
   refine⟨?_,λh=>h rfl⟩
   repeat' first|simp -dsimp only[go_sem,hdE,hdl,hal,hfin,hsum,htk,cC,hkl,hkm]|apply Br.mk<;>intro h<;>try simp -dsimp only[h]|refine aB.c (by first|exact CP) ?_|refine aC ?_|fail
   all_goals first|omega|exact⟨_,_,rfl,rfl⟩
end
section
variable [Vs.Envs]
attribute [local irreducible] Vs.Fn bK aO bL bM l03 chB rk cd3 chI stp aP stb dR mgF gN stF bA iW iP bJ
def aHt (a b:List (List Int)):Bool:=decide ((a.length:Int)>0)&&(decide ((b.length:Int)>0)&&(bJ a != bJ b))
def mgC (fr to:Int) (a b:List (List Int)):Int:=if iW fr to [a,b]=0 then(if aHt a b then 9 else if gN fr to a&&gN fr to b then(if(a.length:Int)+(b.length:Int)>40 then 5 else 0) else 6) else iW fr to [a,b]
def mgV (fr to:Int) (a b:List (List Int)):AV:=if mgC fr to a b=0 then .sl 1 (E cC (iP fr to (a++b))) else .v (.slice none 0 0)
theorem aAr {l:List (List Int)} (h:0<l.length):bJ l=((l.getD 0 []).length:Int):=by unfold bJ;rw[AB (by omega)]
theorem wrap_add {a b:Nat} (h:a<=1048576) (h2:b<=1048576):IntKind.i64.wrap ((a:Int)+(b:Int))=(a:Int)+(b:Int):=aR (by omega) (by omega)
attribute [local go_sem] Int.reduceBEq Int.reduceBNe cD aH Af Ag Al Aq Ae Ai Ac Ak Ab Ah Am Au Ap Ao AX BH Vs.Name.t.injEq BF BG l8 sF lU Aw Be in
theorem aAj (a b:List (List Int)) (fr to:Int) (J:aZ a) (L:aZ b) (h0:mgC fr to a b≠0):Fz F.fU [.sl 1 (E cC a),.sl 1 (E cC b),.agg (cFd fr to)] (.tup [.v (.slice none 0 0),.v (.int .i64 (mgC fr to a b))]):=by
 have O:=wrap_add J.1 L.1;have I:=qR fr to [a,b] (yU J L);by_cases H:iW fr to [a,b]=0
 rotate_left
 .have e0:(iW fr to [a,b] != 0)=true:=by simp[H]
  have hz:mgC fr to a b=iW fr to [a,b]:=by simp[mgC,H]
  rw[hz];refine fn0 Cd.i_MergeDecks_k λX=>?_
  repeat' first|simp -dsimp only[go_sem,cC,cFd,e0]|apply Br.mk<;>intro h<;>try simp -dsimp only[h]|refine aB.c (by first|exact I) ?_|refine aC ?_|fail
  all_goals first|exact⟨_,_,rfl,rfl⟩
 obtain⟨⟨da,db⟩,⟨fa,fb⟩,ca,cb⟩:=zQ H;have IA:=fZ a fr to (dF da fa) J.1;have IB:=fZ b fr to (dF db fb) L.1;have DA:=iF a;have DB:=iF b;rw[H] at I;unfold mgC aHt at h0⊢;rw[AP H] at h0⊢;obtain⟨pA,Y⟩:∃p,decide ((a.length:Int)>0)=p:=⟨_,rfl⟩;obtain⟨pB,Z⟩:∃p,decide ((b.length:Int)>0)=p:=⟨_,rfl⟩;obtain⟨pW,eW⟩:∃p,(bJ a != bJ b)=p:=⟨_,rfl⟩;obtain⟨p5,U⟩:∃p,decide ((a.length:Int)+(b.length:Int)>40)=p:=⟨_,rfl⟩;generalize gN fr to a=p1 at *
 generalize gN fr to b=p2 at *
 have e6:((a.length:Int)+(b.length:Int)>40)=(p5=true):=by rw[←U];simp
 simp only[Y,Z,eW,e6] at h0⊢;refine fn0 Cd.i_MergeDecks_k λX=>?_
 repeat' first|simp -dsimp only[go_sem,cC,cFd,O,Y,Z,eW,U]|apply Br.mk<;>intro h<;>try simp -dsimp only[h]|refine aB.c (by first|exact I|exact DA|exact DB|exact IA|exact IB) ?_|refine aC ?_|fail
 all_goals first|exact⟨_,_,rfl,rfl⟩|(simp_all;done)
end
end Go.Proofs.YtkgeiaideklmoaaGreat
