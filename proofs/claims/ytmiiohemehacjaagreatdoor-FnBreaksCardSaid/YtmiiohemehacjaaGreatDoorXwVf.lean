/- Merging: the program and the reference. -/
import Derived.Test.YtmiiohemehacjaaGreatDoorXwSm
import Derived.Test.YtmiiohemehacjaaGreatDoorXwSh
import Derived.Test.YtmiiohemehacjaaGreatDoorXwD
import Derived.Test.YtmiiohemehacjaaGreatDoorXwQb
import Derived.Test.YtmiiohemehacjaaGreatDoorVtR
import Derived.Test.YtmiiohemehacjaaGreatDoorXuF
import Derived.Test.YtmiiohemehacjaaGreatDoorXuR
set_option linter.all false
set_option maxHeartbeats 8000000
namespace Go.Proofs.YtmiiohemehacjaaGreatDoor
open Go.Vs
section
variable [Vs.Envs]
attribute [local irreducible] Vs.Fn chOK areCh chTo chAt l03 chB rk cd3 chI stb pM
theorem aDS {fr to:Int}{l:List (List Int)}:∀n,stpTo fr to l n=[]->∀i,i<n->¬cmF fr to (l.getD (i+1) []) (l.getD i [])<0
 |0,_,i,hi=>by omega
 | n+1,h,i,hi=>by
  rw[stpTo] at h;obtain⟨u,h2⟩:=List.append_eq_nil_iff.1 h;by_cases hin:i=n
  .subst hin;intro F;rw[AY F] at h2;cases h2
  .exact aDS n u i (by omega)
theorem aKR {fr to:Int}{l:List (List Int)} (h:iL fr to l=true):∀i,i+1<l.length->¬cmF fr to (l.getD (i+1) []) (l.getD i [])<0:=by
 intro i hi
 have u:stp fr to l=[]:=by
  unfold iL at h;have:=Bj.1 h;exact Bl (by omega)
 exact aDS (l.length-1) u i (by omega)
def skp (cf:Int->Int->Int) (na:Nat) (i:Nat):Nat->Nat->Nat
 |0,k=>k
 |m+1,k=>if cf ((na+k:Nat):Int) (i:Int)<0 then skp cf na i m (k+1) else k
def mgK (cf:Int->Int->Int) (na nb:Nat):Nat->Nat
 |0=>0
 |i+1=>skp cf na i (nb-mgK cf na nb i) (mgK cf na nb i)
def rng (a n:Nat):List Int:=(List.range' a n).map λj:Nat=>(j:Int)
def mgI (cf:Int->Int->Int) (na nb:Nat):Nat->List Int
 |0=>[]
 |i+1=>mgI cf na nb i++rng (na+mgK cf na nb i) (mgK cf na nb (i+1)-mgK cf na nb i)++[(i:Int)]
def mgF (cf:Int->Int->Int) (na nb:Nat):List Int:=mgI cf na nb na++rng (na+mgK cf na nb na) (nb-mgK cf na nb na)
theorem aJx (a:Nat):rng a 0=[]:=rfl
theorem aFi (a n:Nat):rng a (n+1)=rng a n++[((a+n:Nat):Int)]:=by
 simp[rng,List.range'_concat]
theorem yT (a n:Nat):(rng a n).length=n:=by simp[rng]
theorem aHo {a n:Nat}{x:Int} (h:x∈rng a n):∃j,a<=j∧j<a+n∧x=(j:Int):=by
 obtain⟨j,F,rfl⟩:=BG.1 h;obtain⟨u,h2⟩:=Dx.1 F;exact⟨j,u,h2,rfl⟩
theorem aEG (a m n:Nat):rng a m++rng (a+m) n=rng a (m+n):=by
 simp[rng,←Cm,List.range'_append]
theorem aJp {cf:Int->Int->Int}{na i nb k:Nat} (h:k<nb):skp cf na i (nb-k) k=if cf ((na+k:Nat):Int) (i:Int)<0 then skp cf na i (nb-(k+1)) (k+1) else k:=by
 rw[show nb-k=(nb-(k+1))+1 by omega,skp]
theorem aJo {cf:Int->Int->Int}{na i nb k:Nat} (h:¬k<nb):skp cf na i (nb-k) k=k:=by
 rw[show nb-k=0 by omega,skp]
theorem aGv (cf:Int->Int->Int) (na i:Nat):∀m k,k<=skp cf na i m k∧skp cf na i m k<=k+m
 |0,k=>by simp[skp]
 | m+1,k=>by
  rw[skp];split
  .have:=aGv cf na i m (k+1);omega
  .omega
theorem aJq (cf:Int->Int->Int) (na i:Nat):∀m k j,k<=j->j<skp cf na i m k->cf ((na+j:Nat):Int) (i:Int)<0
 |0,k,j,h1,h2=>by rw[skp] at h2;omega
 | m+1,k,j,h1,h2=>by
  rw[skp] at h2;split at h2
  .rename_i u;by_cases F:j=k
   .subst F;exact u
   .exact aJq cf na i m (k+1) j (by omega) h2
  .omega
theorem aJr (cf:Int->Int->Int) (na i:Nat):∀m k,skp cf na i m k<k+m->¬cf ((na+skp cf na i m k:Nat):Int) (i:Int)<0
 |0,k,h=>by rw[skp] at h;omega
 | m+1,k,h=>by
  rw[skp] at h⊢;split at h
  .rename_i u;rw[AY u];exact aJr cf na i m (k+1) (by omega)
  .rename_i u;rw[AJ u];exact u
theorem vX (cf:Int->Int->Int) (na nb:Nat):∀i,mgK cf na nb i<=nb
 |0=>BX _
 | i+1=>by
  have h:=vX cf na nb i;have:=aGv cf na i (nb-mgK cf na nb i) (mgK cf na nb i);rw[mgK];omega
theorem aEN (cf:Int->Int->Int) (na nb i:Nat):mgK cf na nb i<=mgK cf na nb (i+1):=by
 rw[mgK];exact(aGv cf na i _ _).1
theorem aCp (cf:Int->Int->Int) (na nb:Nat):∀i,(mgI cf na nb i).length=i+mgK cf na nb i
 |0=>rfl
 | i+1=>by
  have:=aCp cf na nb i;have h2:=aEN cf na nb i;rw[mgI];simp only[AC,A9,yT,this];omega
theorem aFt (cf:Int->Int->Int) (na nb:Nat):∀i,(mgI cf na nb i).Perm (rng 0 i++rng na (mgK cf na nb i))
 |0=>by simp[mgI,mgK,rng]
 | i+1=>by
  have u:=aFt cf na nb i;have h2:=aEN cf na nb i;rw[mgI,aFi]
  have e:rng na (mgK cf na nb (i+1))=rng na (mgK cf na nb i)++rng (na+mgK cf na nb i) (mgK cf na nb (i+1)-mgK cf na nb i):=by
   rw[aEG];congr 1;omega
  rw[e];generalize rng (na+mgK cf na nb i) (mgK cf na nb (i+1)-mgK cf na nb i)=r at *
  generalize rng na (mgK cf na nb i)=q at *
  generalize rng 0 i=p at *
  generalize mgI cf na nb i=o at *
  rw[BF]
  calc o++r++[(i:Int)] |>.Perm (p++q++r++[(i:Int)]):=Dc _ (Dc _ u)
   _ |>.Perm (p++((q++r)++[(i:Int)])):=by rw[Bp,Bp,Bp]
   _ |>.Perm (p++([(i:Int)]++(q++r))):=List.Perm.append_left _ List.perm_append_comm
   _ |>.Perm (p++[(i:Int)]++(q++r)):=by rw[Bp]
theorem aKc (n:Nat):iota n=rng 0 n:=by simp[iota,rng,List.range_eq_range']
theorem aFu (cf:Int->Int->Int) (na nb:Nat):(mgF cf na nb).Perm (iota (na+nb)):=by
 have G:=aFt cf na nb na;have h2:=vX cf na nb na;unfold mgF;rw[aKc]
 have e:rng 0 (na+nb)=rng 0 na++rng na (mgK cf na nb na)++rng (na+mgK cf na nb na) (nb-mgK cf na nb na):=by
  have u:=aEG 0 na (mgK cf na nb na);have F:=aEG 0 (na+mgK cf na nb na) (nb-mgK cf na nb na);rw[BF] at u F;rw[u,F];congr 1;omega
 rw[e];exact Dc _ G
theorem aLA (cf:Int->Int->Int) (na nb:Nat):(mgF cf na nb).length=na+nb:=by rw[(aFu cf na nb).length_eq,nQ]
section
variable {cf:Int->Int->Int}{R:Int->Int->Prop}{na nb:Nat} (htr:∀x y z,R x y->R y z->R x z)
 (hlt:∀i j:Nat,i<na->j<nb->cf ((na+j:Nat):Int) (i:Int)<0->R ((na+j:Nat):Int) (i:Int))
 (hge:∀i j:Nat,i<na->j<nb->¬cf ((na+j:Nat):Int) (i:Int)<0->R (i:Int) ((na+j:Nat):Int))
 (hA:∀i j:Nat,i<j->j<na->R (i:Int) (j:Int)) (hB:∀i j:Nat,i<j->j<nb->R ((na+i:Nat):Int) ((na+j:Nat):Int))
include htr hlt hge hA hB
theorem aHC:∀i,i<=na->(mgI cf na nb i).Pairwise R∧(∀x,x∈mgI cf na nb i->∀j:Nat,i<=j->j<na->R x (j:Int))∧(∀x,x∈mgI cf na nb i->∀j:Nat,mgK cf na nb i<=j->j<nb->R x ((na+j:Nat):Int))
 |0,_=>⟨List.Pairwise.nil,λx u=>(by cases u),λx u=>(by cases u)⟩
 | i+1,hi=>by
  obtain⟨Z,h2,Y⟩:=aHC i (by omega);have hk:=aEN cf na nb i;have hf:=vX cf na nb (i+1);have he:=vX cf na nb i;have O:∀j,mgK cf na nb i<=j->j<mgK cf na nb (i+1)->cf ((na+j:Nat):Int) (i:Int)<0:=λj a b=>aJq cf na i _ _ j a (by rw[mgK] at b;exact b)
  have U:mgK cf na nb (i+1)<nb->¬cf ((na+mgK cf na nb (i+1):Nat):Int) (i:Int)<0:=λh=>by
   have:=aJr cf na i (nb-mgK cf na nb i) (mgK cf na nb i);rw[mgK] at h⊢;exact this (by omega)
  rw[mgI];generalize hK:mgK cf na nb i=k at *
  generalize hc:mgK cf na nb (i+1)=k' at *
  have M:∀x,x∈rng (na+k) (k'-k)->∃j,k<=j∧j<k'∧x=((na+j:Nat):Int):=λx u=>by
   obtain⟨j,a,b,rfl⟩:=aHo u;exact⟨j-na,by omega,by omega,by congr 1;omega⟩
  have G:∀x,x∈rng (na+k) (k'-k)->R x (i:Int):=λx u=>by
   obtain⟨j,a,b,rfl⟩:=M x u;exact hlt i j (by omega) (by omega) (O j a b)
  have F:∀j:Nat,i<j->j<na->R (i:Int) (j:Int):=λj a b=>hA i j a b
  have I:∀j:Nat,k'<=j->j<nb->R (i:Int) ((na+j:Nat):Int):=λj a b=>by
   have V:=hge i k' (by omega) (by omega) (U (by omega));by_cases hj:j=k'
   .subst hj;exact V
   .exact htr _ _ _ V (hB k' j (by omega) b)
  have J:∀x,x∈mgI cf na nb i->R x (i:Int):=λx u=>h2 x u i (AL _) (by omega)
  have L:∀x,x∈mgI cf na nb i->∀y,y∈rng (na+k) (k'-k)->R x y:=λx u y H=>by
   obtain⟨j,a,b,rfl⟩:=M y H;exact Y x u j a (by omega)
  refine⟨?_,?_,?_⟩
  .rw[Bu,Bu];refine⟨⟨Z,?_,L⟩,List.pairwise_singleton _ _,λx u y H=>?_⟩
   .unfold rng;rw[List.pairwise_map];refine List.Pairwise.imp_of_mem (R:=λa b=>a<b) ?_ List.pairwise_lt_range';intro a b ha hb hd;obtain⟨a1,a2⟩:=Dx.1 ha;obtain⟨b1,b2⟩:=Dx.1 hb;have:=hB (a-na) (b-na) (by omega) (by omega)
    rwa [show na+(a-na)=a by omega,show na+(b-na)=b by omega] at this
   .rw[Ar] at H;subst H;rcases Be.1 u with u|u
    .exact J x u
    .exact G x u
  .intro x u j a b;rcases Be.1 u with u|u
   .rcases Be.1 u with u|u
    .exact h2 x u j (by omega) b
    .exact htr _ _ _ (G x u) (F j (by omega) b)
   .rw[Ar] at u;subst u;exact F j (by omega) b
  .intro x u j a b;rcases Be.1 u with u|u
   .rcases Be.1 u with u|u
    .exact Y x u j (by omega) b
    .obtain⟨j',a',b',rfl⟩:=M x u;exact hB j' j (by omega) b
   .rw[Ar] at u;subst u;exact I j a b
theorem aLz:(mgF cf na nb).Pairwise R:=by
 obtain⟨u,h2,F⟩:=aHC htr hlt hge hA hB na (AL _);unfold mgF;rw[Bu];refine⟨u,?_,λx L y M=>?_⟩
 .unfold rng;rw[List.pairwise_map];refine List.Pairwise.imp_of_mem (R:=λa b=>a<b) ?_ List.pairwise_lt_range';intro a b G I H;obtain⟨O,U⟩:=Dx.1 G;obtain⟨V,Y⟩:=Dx.1 I;have J:=vX cf na nb na;have:=hB (a-na) (b-na) (by omega) (by omega)
  rwa [show na+(a-na)=a by omega,show na+(b-na)=b by omega] at this
 .obtain⟨j,a,b,rfl⟩:=aHo M;have J:=vX cf na nb na;have:=F x L (j-na) (by omega) (by omega)
  rwa [show na+(j-na)=j by omega] at this
end
theorem aJI {R:Nat->Nat->Prop} (htr:∀x y z,R x y->R y z->R x z) {n:Nat} (h:∀i,i+1<n->R i (i+1)):∀i j,i<j->j<n->R i j:=by
 intro i j F u;obtain⟨d,rfl⟩:∃d,j=i+1+d:=⟨j-(i+1),by omega⟩
 induction d with
 |zero=>exact h i u
 |succ d ih=>exact htr _ _ _ (ih (by omega) (by omega)) (h (i+1+d) u)
theorem aH5 {a b:List (List Int)}{i:Nat} (h:i<a.length):(a++b).getD i []=a.getD i []:=by simp[List.getD,BB h]
theorem aH4 {a b:List (List Int)} (j:Nat):(a++b).getD (a.length+j) []=b.getD j []:=by
 simp only[List.getD];rw[Bv (by omega),Nat.add_sub_cancel_left]
theorem aGF {fr to:Int}{a b:List (List Int)} (u:∀c,c∈a++b->okF fr to c) (V:a.length+b.length<=40) (M:iL fr to a=true) (O:iL fr to b=true) :
  mgF (cfO fr to (a++b)) a.length b.length=pM fr to (a++b):=by
 have G:(a++b).length=a.length+b.length:=by simp
 obtain⟨J,h2⟩:=aCV u (by omega);rw[G] at J;have hin:∀i:Nat,i<a.length+b.length->inO (a++b).length (i:Int):=λi hi=>⟨by omega,by omega⟩
 have F:∀i j:Nat,i<j->j<a.length+b.length->¬cfO fr to (a++b) (j:Int) (i:Int)<0->xO fr to (a++b) (i:Int) (j:Int):=by
  intro i j U I H;have e:=aCF u (hin i (by omega)) (hin j I);refine⟨⟨hin i (by omega),hin j I⟩,?_⟩;by_cases L:cfO fr to (a++b) (i:Int) (j:Int)=0
  .exact .inr ⟨L,by omega⟩
  .exact .inl (by omega)
 have hA:∀i j:Nat,i<j->j<a.length->xO fr to (a++b) (i:Int) (j:Int):=by
  refine aJI (R:=λi j=>xO fr to (a++b) (i:Int) (j:Int)) (λx y z=>mE u _ _ _) λi hi=>?_;refine F i (i+1) (by omega) (by omega) ?_;have:=aKR M i hi;unfold cfO;rw[Bw,Bw,aH5 hi,aH5 (by omega)];exact this
 have hB:∀i j:Nat,i<j->j<b.length->xO fr to (a++b) ((a.length+i:Nat):Int) ((a.length+j:Nat):Int):=by
  refine aJI (R:=λi j=>xO fr to (a++b) ((a.length+i:Nat):Int) ((a.length+j:Nat):Int)) (λx y z=>mE u _ _ _) λi hi=>?_;refine F _ _ (by omega) (by omega) ?_;have:=aKR O i hi;unfold cfO;rw[Bw,Bw,aH4,aH4];exact this
 refine aEC (mE u) (aBp u) ((aFu _ _ _).trans J.symm) (aLz (mE u) (λi j hi I H=>?_) (λi j hi I H=>?_) hA hB) h2
 .exact⟨⟨hin _ (by omega),hin _ (by omega)⟩,.inl H⟩
 .exact F i _ (by omega) (by omega) H
end
section
variable [Vs.Envs]
attribute [local irreducible] Vs.Fn chOK areCh chTo chAt l03 chB rk cd3 chI stp stpTo
def bS (fr to:Int) (l:List (List Int)):Nat->List Int
 |0=>[]
 |i+1=>bS fr to l i++(if i=0∨cmF fr to (l.getD (i-1) []) (l.getD i [])≠0 then[(i:Int)] else[])
theorem sK (fr to:Int) (l:List (List Int)) (i:Nat):bS fr to l (i+1)=bS fr to l i++(if i=0∨cmF fr to (l.getD (i-1) []) (l.getD i [])≠0 then[(i:Int)] else[]):=rfl
theorem wK (fr to:Int) (l:List (List Int)):bS fr to l 0=[]:=rfl
theorem jV (fr to:Int) (l:List (List Int)):∀i,(bS fr to l i).length<=i
 |0=>AL _
 | i+1=>by
  have:=jV fr to l i;rw[sK,AC];split<;>simp<;>omega
attribute [local irreducible] bS
attribute [local go_sem] aH Ai Ah Al Aq Ad Af Ac Ae Aa Ab Ao in
theorem aFS (l:List (List Int)) (fr to:Int) (ho:∀c,c∈l->okF fr to c) (hl:l.length<=1048576):Fz F.o5 [.sl 1 (E cC l),.agg (cFd fr to)] (.sl 1 (E cI (bS fr to l l.length))):=by
 refine fn0 Cd.i_groupsOf_k λX=>?_
 repeat' first|simp -dsimp only[go_sem,cC,cFd]|apply Br.mk<;>intro h<;>try simp -dsimp only[h]|refine aC ?_|fail
 refine aO.at dM (X:={zz:Nat×(Unit) // zz.1<=l.length∧True}) (λzz=>[(5,.loc (.t 5 0) 0 (bS fr to l zz.1.1).length),(11,.v (.int .i64 zz.1.1))]) (λzz=>[(.t 5 0,.arr 1 (E cI (bS fr to l zz.1.1)) false)]) (λzz=>l.length-zz.1.1) ⟨(0,()),by omega,trivial⟩ ?_ ?_
 .simp[Vs.LeL,Vs.look,aB,aP,aJ,Vs.hset,aK,Vs.E,wK]
 .rintro⟨⟨i,_⟩,hi,hg⟩;dsimp only at hi hg;simp -dsimp only[go_sem,cC,cFd];refine Br.mk (λhc=>?_) λhc=>?_
  .have hlt:i<l.length:=Dq;have hw:=aI hlt hl;have hgl:=jV fr to l i;have gi:(E cC l).getD i []=[.sl 1 (E cI (l.getD i []))]:=by rw[aR hlt];simp[cC,List.getD,hlt]
   have hap:E cI (bS fr to l i)++[[.v (.int .i64 (i:Int))]]=E cI (bS fr to l i++[(i:Int)]):=by rw[aS];rfl
   have hal:(E cI (bS fr to l i)).length=(bS fr to l i).length:=aH ..
   have hgs:=sK fr to l i;by_cases h0:i=0
   .subst h0;rw[AY (.inl rfl)] at hgs;have e0:(((0:Nat):Int)==0)=true:=rfl
    repeat' first|simp -dsimp only[go_sem,e0,hw,hap,hal,gi,cC,cFd]|apply Br.mk<;>intro h<;>try simp -dsimp only[h]|refine aC ?_|fail
    all_goals first|omega|(exact nx (0+1,()) trivial (h2:=by simp[Vs.LeL,Vs.look,aB,aP,aJ,Vs.hset,aK,hgs]))
   .have e0:((i:Int)==0)=false:=by simp[h0]
    have w0:IntKind.i64.wrap ((i:Int)-1)=((i-1:Nat):Int):=by rw[aM (by omega) (by omega)];omega
    have hl1:i-1<l.length:=by omega
    have gj:(E cC l).getD (i-1) []=[.sl 1 (E cI (l.getD (i-1) []))]:=by rw[aR hl1];simp[cC,List.getD,hl1]
    have hmi:l.getD i []∈l:=by rw[show l.getD i []=l[i] by simp[List.getD,hlt]];exact Am hlt
    have hmj:l.getD (i-1) []∈l:=by rw[show l.getD (i-1) []=l[i-1] by simp[List.getD,hl1]];exact Am hl1
    have CF:=lZ (l.getD (i-1) []) (l.getD i []) fr to (ho _ hmj) (ho _ hmi);by_cases hc0:cmF fr to (l.getD (i-1) []) (l.getD i [])=0
    .have e1:(cmF fr to (l.getD (i-1) []) (l.getD i []) != 0)=false:=by rw[hc0];rfl
     rw[AJ (by rintro(h|h)<;>contradiction),AA] at hgs
     repeat' first|simp -dsimp only[go_sem,e0,e1,w0,hw,hap,hal,gi,gj,cC,cFd]|apply Br.mk<;>intro h<;>try simp -dsimp only[h]|refine aA.c (by first|exact CF) ?_|refine aC ?_|fail
     all_goals first|omega|(exact nx (i+1,()) trivial (h2:=by simp[Vs.LeL,Vs.look,aB,aP,aJ,Vs.hset,aK,hgs]))
    .have e1:(cmF fr to (l.getD (i-1) []) (l.getD i []) != 0)=true:=bne_iff_ne.2 hc0;rw[AY (.inr hc0)] at hgs
     repeat' first|simp -dsimp only[go_sem,e0,e1,w0,hw,hap,hal,gi,gj,cC,cFd]|apply Br.mk<;>intro h<;>try simp -dsimp only[h]|refine aA.c (by first|exact CF) ?_|refine aC ?_|fail
     all_goals first|omega|(exact nx (i+1,()) trivial (h2:=by simp[Vs.LeL,Vs.look,aB,aP,aJ,Vs.hset,aK,hgs]))
  .have hge:i=l.length:=by
    have:¬i<l.length:=Dq;omega
   subst hge;simp -dsimp only[go_sem,cC,cFd];have htk:(E cI (bS fr to l l.length)).take (bS fr to l l.length).length=E cI (bS fr to l l.length):=Ag (by rw[aH];exact AL _)
   first|exact⟨⟨_,_,rfl,rfl⟩,λh=>h rfl⟩|(rw[htk];exact⟨⟨_,_,rfl,rfl⟩,λh=>h rfl⟩)|(simp[htk];done)
end
section
variable [Vs.Envs]
attribute [local irreducible] Vs.Fn bS chOK areCh chTo chAt l03 chB rk cd3 chI stp stpTo
theorem vG {fr to:Int}{l:List (List Int)}:∀n x,x∈bS fr to l n->0<=x∧x<(n:Int)
 |0,x,h=>by rw[wK] at h;cases h
 | n+1,x,h=>by
  rw[sK] at h;rcases Be.1 h with h|h
  .have:=vG n x h;omega
  .split at h
   .simp at h;subst h;omega
   .cases h
theorem aA8 {fr to:Int}{l:List (List Int)}:∀n,(bS fr to l n).Pairwise (· < ·)
 |0=>by rw[wK];exact List.Pairwise.nil
 | n+1=>by
  rw[sK,Bu];refine⟨aA8 n,by split<;>simp,λa F b u=>?_⟩;have:=vG n a F;split at u
  .simp at u;subst u;exact this.2
  .cases u
def gK (l:List (List Int)) (s:List Int) (i:Nat):List (List Int):=(l.take (if i+1<s.length then(s.getD (i+1) 0).toNat else l.length)).drop (s.getD i 0).toNat
def aDl (fr to:Int) (l:List (List Int)):List (List (List Int)):=(List.range (bS fr to l l.length).length).map (gK l (bS fr to l l.length))
attribute [local irreducible] gK
attribute [local go_sem] aH Ai Ah Al Aq Ad Af Ac Ae Aa Ab Ao in
theorem groups (l:List (List Int)) (fr to:Int) (ho:∀c,c∈l->okF fr to c) (hl:l.length<=1048576):Fz F.xY [.sl 1 (E cC l),.agg (cFd fr to)] (.sl 1 (E cD (aDl fr to l))):=by
 have GO:=aFS l fr to ho hl;have SZ:=aMf l;have hgl:=jV fr to l l.length;have hin:=vG (fr:=fr) (to:=to) (l:=l) l.length;have hup:=aA8 (fr:=fr) (to:=to) (l:=l) l.length;rw[show aDl fr to l=(List.range (bS fr to l l.length).length).map (gK l (bS fr to l l.length)) from rfl];generalize bS fr to l l.length=s at *
 refine fn0 Cd.i_groups_k λX=>?_
 repeat' first|simp -dsimp only[go_sem,cC,cFd,cD]|apply Br.mk<;>intro h<;>try simp -dsimp only[h]|refine aA.c (by first|exact GO) ?_|refine aC ?_|fail
 refine aO.at dM (X:={zz:Nat×(Unit) // zz.1<=s.length∧True}) (λzz=>[(5,.loc (.t 5 0) 0 zz.1.1),(16,.v (.int .i64 zz.1.1))]) (λzz=>[(.t 5 0,.arr 1 (E cD ((List.range zz.1.1).map (gK l s))) false)]) (λzz=>s.length-zz.1.1) ⟨(0,()),by omega,trivial⟩ ?_ ?_
 .simp[Vs.LeL,Vs.look,aB,aP,aJ,Vs.hset,aK,Vs.E]
 .rintro⟨⟨i,_⟩,hi,hg⟩;dsimp only at hi hg;simp -dsimp only[go_sem,cC,cFd,cD];refine Br.mk (λhc=>?_) λhc=>?_
  .have hlt:i<s.length:=Dq;have hw:=aI hlt (by omega);have hs0:=hin _ (Am hlt);have e:s.getD i 0=s[i]:=by simp[List.getD,hlt]
   have hap:E cD ((List.range i).map (gK l s))++[[.sl 1 (E cC (gK l s i))]]=E cD ((List.range (i+1)).map (gK l s)):=by
    rw[Dt,Cm,aS];rfl
   have hal:(E cD ((List.range i).map (gK l s))).length=i:=by rw[aH];simp
   have hiw:IntKind.i64.wrap ((i:Int)+1)=((i+1:Nat):Int):=hw;by_cases h1:i+1<s.length
   .have e1:decide (((i+1:Nat):Int)<(s.length:Int))=true:=by simp;omega
    have hs1:=hin _ (Am h1);have hlt2:s[i]<s[i+1]:=Dp.1 hup i (i+1) hlt h1 (by omega)
    have hga:((E cC l).take s[i+1].toNat).drop s[i].toNat=E cC (gK l s i):=by
     unfold gK;rw[AY h1,e,show s.getD (i+1) 0=s[i+1] by simp[List.getD,h1]];simp[E,Cz,CW]
    simp -dsimp only[go_sem,dJ hlt,dJ h1,hw,e1,hal,cC,cFd,cD]
    repeat' first|simp -dsimp only[go_sem,dJ hlt,dJ h1,hw,e1,hap,hal,hga,cC,cFd,cD]|apply Br.mk<;>intro h<;>try simp -dsimp only[h]|refine aA.c (by first|exact SZ) ?_|refine aC ?_|fail
    all_goals first|omega|(exact nx (i+1,()) trivial (h2:=by simp[Vs.LeL,Vs.look,aB,aP,aJ,Vs.hset,aK,Dt]))
   .have e1:decide (((i+1:Nat):Int)<(s.length:Int))=false:=by simp;omega
    have hga:(E cC l).drop s[i].toNat=E cC (gK l s i):=by
     unfold gK;rw[AJ h1,e,Ag (AL _)];simp[E,CW]
    simp -dsimp only[go_sem,dJ hlt,hw,e1,hal,cC,cFd,cD]
    repeat' first|simp -dsimp only[go_sem,dJ hlt,hw,e1,hap,hal,hga,cC,cFd,cD]|apply Br.mk<;>intro h<;>try simp -dsimp only[h]|refine aA.c (by first|exact SZ) ?_|refine aC ?_|fail
    all_goals first|omega|(exact nx (i+1,()) trivial (h2:=by simp[Vs.LeL,Vs.look,aB,aP,aJ,Vs.hset,aK,Dt]))
  .have hge:i=s.length:=by
    have:¬i<s.length:=Dq;omega
   subst hge;simp -dsimp only[go_sem,cC,cFd,cD];have htk:(E cD ((List.range s.length).map (gK l s))).take s.length=E cD ((List.range s.length).map (gK l s)):=Ag (by rw[aH];simp)
   first|exact⟨⟨_,_,rfl,rfl⟩,λh=>h rfl⟩|(rw[htk];exact⟨⟨_,_,rfl,rfl⟩,λh=>h rfl⟩)|(simp[htk];done)
end
section
variable [Vs.Envs]
attribute [local irreducible] Vs.Fn chOK areCh chTo chAt l03 chB rk cd3 chI stp stpTo
def jX (fr to:Int) (l:List (List Int)):Int:=l.foldl (λa c=>IntKind.i64.wrap (a+(dQ fr to c).1)) 0
def aAx (fr to:Int) (l:List (List Int)):Bool:=l.all λc=>(dQ fr to c).2
theorem aIf {fr to:Int}{l:List (List Int)}{i:Nat} (h:i<l.length):jX fr to (l.take (i+1))=IntKind.i64.wrap (jX fr to (l.take i)+(dQ fr to l[i]).1):=by
 unfold jX;rw[bU h,List.foldl_append];rfl
def aCK (fr to:Int) (l:List (List Int)):AV:=if aAx fr to l then .sl 1 (E cI [jX fr to l]) else .v (.slice none 0 0)
attribute [local irreducible] jX dQ
attribute [local go_sem] cFd aH Ai Ah Al Aq Ad Af Ac Ae Aa Ab Ao Ak in
theorem aJd (l:List (List Int)) (fr to:Int) (ho:∀c,c∈l->okP fr to c) (hl:l.length<=1048576):Fz F.uZ [.sl 2 [[.v (.int .i64 fr),.v (.int .i64 to)]],.sl 1 (E cC l)] (.tup [aCK fr to l,.v (.bool (aAx fr to l))]):=by
 refine fn0 Cd.i_sumsOf_k λX=>?_
 repeat' first|simp -dsimp only[go_sem,cC]|apply Br.mk<;>intro h<;>try simp -dsimp only[h]|refine aC ?_|fail
 refine aO.at dM (X:={zz:Nat×(Unit) // zz.1<=1∧(zz.1=1->aAx fr to l=true)}) (λzz=>[(6,.loc (.t 6 0) 0 zz.1.1),(17,.v (.int .i64 zz.1.1))]) (λzz=>[(.t 6 0,.arr 1 (E cI ([jX fr to l].take zz.1.1)) false)]) (λzz=>1-zz.1.1) ⟨(0,()),by omega,by intro h;cases h⟩ ?_ ?_
 .simp[Vs.LeL,Vs.look,aB,aP,aJ,Vs.hset,aK,Vs.E]
 .rintro⟨⟨i,_⟩,hi,hg⟩;dsimp only at hi hg;simp -dsimp only[go_sem,cC];refine Br.mk (λhc=>?_) λhc=>?_
  .have hlt:i<1:=Dq;have hw:=aI hlt (by omega);obtain rfl:i=0:=by omega
   repeat' first|simp -dsimp only[go_sem,cC]|apply Br.mk<;>intro h<;>try simp -dsimp only[h]|refine aC ?_|fail
   refine aO.at dM (X:={zz:Nat×(Unit) // zz.1<=l.length∧(l.take zz.1).all (λc=>(dQ fr to c).2)=true}) (λzz=>[(9,.v (.int .i64 (jX fr to (l.take zz.1.1)))),(23,.v (.int .i64 zz.1.1))]) (λzz=>[]) (λzz=>l.length-zz.1.1) ⟨(0,()),by omega,by simp⟩ ?_ ?_
   .simp[Vs.LeL,Vs.look,aB,aP,aJ,Vs.hset,aK,jX]
   .rintro⟨⟨i,_⟩,hi,hg⟩;dsimp only at hi hg;simp -dsimp only[go_sem,cC];refine Br.mk (λhc=>?_) λhc=>?_
    .have hlt:i<l.length:=Dq;have hw:=aI hlt hl;have hm:(E cC l).getD i []=[.sl 1 (E cI l[i])]:=aR hlt;have NI:=aBs (ho _ (Am hlt));have hss:=aIf (fr:=fr) (to:=to) hlt;cases hb:(dQ fr to l[i]).2
     .rw[hb] at NI;have hna:aAx fr to l=false:=iD (p:=λc=>(dQ fr to c).2) hlt hb;have hv:aCK fr to l=.v (.slice none 0 0):=by simp[aCK,hna]
      repeat' first|simp -dsimp only[go_sem,hm,hw,cC]|apply Br.mk<;>intro h<;>try simp -dsimp only[h]|refine aA.c (by first|exact NI) ?_|refine aC ?_|fail
      all_goals first|omega|(rw[hv,hna];exact⟨_,_,rfl,rfl⟩)|(simp[hv,hna];done)
     .rw[hb] at NI;simp -dsimp only[go_sem,hm,hw,cC]
      repeat' first|simp -dsimp only[go_sem,hm,hw,←hss,cC]|apply Br.mk<;>intro h<;>try simp -dsimp only[h]|refine aA.c (by first|exact NI) ?_|refine aC ?_|fail
      all_goals first|omega|(exact nx (i+1,()) (bH (p:=λc=>(dQ fr to c).2) hlt hg hb) (h2:=by simp[Vs.LeL,Vs.look,aB,aP,aJ,Vs.hset,aK,hss]))
    .have hge:i=l.length:=by
      have:¬i<l.length:=Dq;omega
     subst hge;simp -dsimp only[go_sem,cC];have hall:aAx fr to l=true:=by simpa[aAx] using hg
     have e01:IntKind.i64.wrap 1=1:=rfl;have hfull:l.take l.length=l:=Ag (AL _);refine⟨⟨by decide,by decide,?_⟩,λh=>absurd rfl h⟩;exact⟨⟨(1,()),⟨by omega,λ_=>hall⟩⟩,by simp[Vs.LeL,Vs.look,aB,aP,aJ,Vs.hset,aK,hfull,e01,Vs.E,cI],by simp only;omega⟩
  .have hge:i=1:=by
    have:¬i<1:=Dq;omega
   subst hge;simp -dsimp only[go_sem,cC];have hall:=hg rfl;rw[hall,show aCK fr to l=.sl 1 (E cI [jX fr to l]) by simp[aCK,hall]];exact⟨⟨_,_,rfl,rfl⟩,λh=>h rfl⟩
end
section
variable [Vs.Envs]
attribute [local irreducible] Vs.Fn jX dQ gK bS chOK areCh chTo chAt l03 chB rk cd3 chI stp stpTo
theorem aIQ (a:List Int) (fr to:Int) (u:okF fr to a) (hh:cZ (fH fr to a)=true):Fz F.pX [.agg (cC a),.agg (cFd fr to)] (.v (.string (txt (fH fr to a)))):=by
 refine fn0 Cd.i_fieldText_k λX=>?_
 repeat' first|simp -dsimp only[go_sem,cC,cFd,fH_E,Ai,Ah,Al,Aq,Ad,Af,Ac,Ae,Aa,Ab,Ao,Ak]|apply Br.mk<;>intro h<;>try simp -dsimp only[h]|refine RgK.mk rfl ?_|refine aA.c (by first|exact textOf _ (aBa u) hh) ?_|refine And.intro (by first|rfl|omega|decide|exact cB u|exact cB hb|exact⟨rfl,cB u⟩|exact⟨rfl,cB hb⟩|exact bF u|exact bF hb|exact⟨rfl,bF u⟩|exact⟨rfl,bF hb⟩|(refine⟨?_,?_⟩<;>(first|rfl|omega|decide|exact cB u|exact cB hb|exact⟨rfl,cB u⟩|exact⟨rfl,cB hb⟩|exact bF u|exact bF hb|exact⟨rfl,bF u⟩|exact⟨rfl,bF hb⟩))|(refine⟨?_,?_,?_⟩<;>(first|rfl|omega|decide|exact cB u|exact cB hb|exact⟨rfl,cB u⟩|exact⟨rfl,cB hb⟩|exact bF u|exact bF hb|exact⟨rfl,bF u⟩|exact⟨rfl,bF hb⟩))|(refine⟨?_,?_,?_,?_⟩<;>(first|rfl|omega|decide|exact cB u|exact cB hb|exact⟨rfl,cB u⟩|exact⟨rfl,cB hb⟩|exact bF u|exact bF hb|exact⟨rfl,bF u⟩|exact⟨rfl,bF hb⟩))) ?_|fail
 all_goals(simp_all)
theorem aFQ {fr to:Int}{l:List (List Int)}{g:List (List Int)} (h:g∈aDl fr to l):0<g.length∧g.length<=l.length∧∀c,c∈g->c∈l:=by
 unfold aDl at h;obtain⟨i,hi,rfl⟩:=BG.1 h;have hi:=BI.1 hi;have hin:=vG (fr:=fr) (to:=to) (l:=l) l.length;have F:=aA8 (fr:=fr) (to:=to) (l:=l) l.length;generalize bS fr to l l.length=s at *
 have J:=hin _ (Am hi);have e:s.getD i 0=s[i]:=by simp[List.getD,hi]
 unfold gK;rw[e];refine⟨?_,?_,λc H=>CQ (CU H)⟩
 .rw[Cf,Ch];split
  .rename_i u;have I:=hin _ (Am u);have G:s[i]<s[i+1]:=Dp.1 F i (i+1) hi u (by omega);rw[show s.getD (i+1) 0=s[i+1] by simp[List.getD,u]];omega
  .omega
 .rw[Cf,Ch];omega
theorem aFR (fr to:Int) (l:List (List Int)):(aDl fr to l).length<=l.length:=by
 unfold aDl;rw[BC,List.length_range];exact jV fr to l l.length
def cTt (t:ByteArray×Int):List AV:=[.v (.string t.1),.v (.int .i64 t.2)]
def o7 (fr to sf st:Int) (l:List (List Int)):List (ByteArray×Int):=(aDl fr to l).map λg=>(txt (fH fr to (g.getD 0 [])),jX sf st g)
def nZ (fr to sf st:Int) (l:List (List Int)):Bool:=aAx sf st l&&bW fr to l
def wX (fr to sf st:Int) (l:List (List Int)):AV:=if nZ fr to sf st l then .sl 2 (E cTt (o7 fr to sf st l)) else .v (.slice none 0 0)
attribute [local irreducible] aDl
attribute [local go_sem] aH Ai Ah Al Aq Ad Af Ac Ae Aa Ab Ao Ak cD Ar Vs.Name.t.injEq Ay Az Bo Bq in
theorem aJa (l:List (List Int)) (fr to sf st:Int) (ho:∀c,c∈l->okF fr to c) (hp:∀c,c∈l->okP sf st c) (hl:l.length<=1048576):Fz F.rW [.sl 1 (E cC l),.agg (cFd fr to),.agg (cFd sf st)] (.tup [wX fr to sf st l,.v (.int .i64 (if nZ fr to sf st l then 0 else 8))]):=by
 have SO:=aJd l sf st hp hl;have HF:=qX l fr to ho hl;have GR:=groups l fr to ho hl;cases hN:aAx sf st l
 .rw[hN] at SO;have hb:nZ fr to sf st l=false:=by simp[nZ,hN]
  rw[show wX fr to sf st l=.v (.slice none 0 0) by simp[wX,hb],hb];refine fn0 Cd.i_totalsOf_k λX=>?_
  repeat' first|simp -dsimp only[go_sem,cC,cFd]|apply Br.mk<;>intro h<;>try simp -dsimp only[h]|refine aA.c (by first|exact SO|exact HF) ?_|refine aC ?_|fail
  all_goals first|exact⟨_,_,rfl,rfl⟩|simp
 rw[hN] at SO;cases hC:bW fr to l
 .rw[hC] at HF;have hb:nZ fr to sf st l=false:=by simp[nZ,hC]
  rw[show wX fr to sf st l=.v (.slice none 0 0) by simp[wX,hb],hb];refine fn0 Cd.i_totalsOf_k λX=>?_
  repeat' first|simp -dsimp only[go_sem,cC,cFd]|apply Br.mk<;>intro h<;>try simp -dsimp only[h]|refine aA.c (by first|exact SO|exact HF) ?_|refine aC ?_|fail
  all_goals first|exact⟨_,_,rfl,rfl⟩|simp
 rw[hC] at HF;have hb:nZ fr to sf st l=true:=by simp[nZ,hN,hC]
 rw[show wX fr to sf st l=.sl 2 (E cTt (o7 fr to sf st l)) by simp[wX,hb],hb];have hgm:∀g,g∈aDl fr to l->0<g.length∧g.length<=l.length∧∀c,c∈g->c∈l:=λg hg=>aFQ hg;have hGl:=aFR fr to l;unfold o7;generalize aDl fr to l=G at *
 refine fn0 Cd.i_totalsOf_k λX=>?_
 repeat' first|simp -dsimp only[go_sem,cC,cFd]|apply Br.mk<;>intro h<;>try simp -dsimp only[h]|refine aA.c (by first|exact SO|exact HF|exact GR) ?_|refine aC ?_|fail
 refine aO.at dM (X:={zz:Nat×(Unit) // zz.1<=G.length∧True}) (λzz=>[(10,.loc (.t 10 0) 0 zz.1.1),(35,.v (.int .i64 zz.1.1))]) (λzz=>[(.t 10 0,.arr 2 (E cTt ((G.take zz.1.1).map λg=>(txt (fH fr to (g.getD 0 [])),jX sf st g))) false)]) (λzz=>G.length-zz.1.1) ⟨(0,()),by omega,trivial⟩ ?_ ?_
 .simp[Vs.LeL,Vs.look,aB,aP,aJ,Vs.hset,aK,Vs.E]
 .rintro⟨⟨i,_⟩,hi,hg⟩;dsimp only at hi hg;simp -dsimp only[go_sem,cC,cFd];refine Br.mk (λhc=>?_) λhc=>?_
  .have hlt:i<G.length:=Dq;have hw:=aI hlt (by omega);obtain⟨g0,g1,g2⟩:=hgm _ (Am hlt);have hgi:(E cD G).getD i []=[.sl 1 (E cC G[i])]:=aR hlt;have SG:=aJd G[i] sf st (λc hc=>hp c (g2 c hc)) (by omega);have hNg:aAx sf st G[i]=true:=Aw.2 λc hc=>Aw.1 hN c (g2 c hc);rw[show aCK sf st G[i]=.sl 1 (E cI [jX sf st G[i]]) by simp[aCK,hNg],hNg] at SG;have hm0:G[i].getD 0 []∈G[i]:=by rw[show G[i].getD 0 []=G[i][0] by simp[List.getD,g0]];exact Am g0
   have hg0:(E cC G[i]).getD 0 []=[.sl 1 (E cI (G[i].getD 0 []))]:=by rw[aR g0];simp[cC,List.getD,g0]
   have FT:=aIQ (G[i].getD 0 []) fr to (ho _ (g2 _ hm0)) (Aw.1 hC _ (g2 _ hm0));have hs0:(E cI [jX sf st G[i]]).getD 0 []=[.v (.int .i64 (jX sf st G[i]))]:=rfl
   have hap:E cTt ((G.take i).map λg=>(txt (fH fr to (g.getD 0 [])),jX sf st g))++[[.v (.string (txt (fH fr to (G[i].getD 0 [])))),.v (.int .i64 (jX sf st G[i]))]]=E cTt ((G.take (i+1)).map λg=>(txt (fH fr to (g.getD 0 [])),jX sf st g)):=by
    rw[bU hlt,Cm,aS];rfl
   have hal:(E cTt ((G.take i).map λg=>(txt (fH fr to (g.getD 0 [])),jX sf st g))).length=i:=by rw[aH];simp;omega
   simp -dsimp only[go_sem,hgi,hg0,hs0,hw,hal,cC,cFd]
   repeat' first|simp -dsimp only[go_sem,hgi,hg0,hs0,hw,hap,hal,cC,cFd]|apply Br.mk<;>intro h<;>try simp -dsimp only[h]|refine aA.c (by first|exact SG|exact FT) ?_|refine aC ?_|fail
   all_goals first|omega|(exact nx (i+1,()) trivial (h2:=by simp[Vs.LeL,Vs.look,aB,aP,aJ,Vs.hset,aK,hap]))
  .have hge:i=G.length:=by
    have:¬i<G.length:=Dq;omega
   subst hge;simp -dsimp only[go_sem,cC,cFd]
   have htk:(E cTt ((G.take G.length).map λg=>(txt (fH fr to (g.getD 0 [])),jX sf st g))).take G.length=E cTt (G.map λg=>(txt (fH fr to (g.getD 0 [])),jX sf st g)):=by
    rw[Ag (AL G.length)];exact Ag (by rw[aH];simp)
   first|exact⟨⟨_,_,rfl,rfl⟩,λh=>h rfl⟩|(rw[htk];exact⟨⟨_,_,rfl,rfl⟩,λh=>h rfl⟩)|(simp[htk];done)
end
section
variable [Vs.Envs]
attribute [local irreducible] Vs.Fn chOK areCh chTo chAt l03 chB rk cd3 chI stp stpTo
theorem aNg (w:Nat) (G:w<=1000):Vs.Fn Tryz.prog F.zN [] [.v (.int .i64 w)] (.agg [.loc (.b 0) 0 w]) [some (.arr 1 (List.replicate w [.v (.int .i64 0)]) false)]:=by
 have u:((w:Int)).toNat=w:=by omega
 refine fn1 Cd.i_blank_k [.t 4 0] [.arr 1 (List.replicate w [.v (.int .i64 0)]) false] λX=>?_;unfold Cd.zN
 repeat' first|simp -dsimp only[go_sem,aH,Ac,Ae,Aa,Ab,Ao,Dg,AO,AP,aX,bG,aW,Ak,AA,Af,Ad,u]|apply Br.mk<;>intro h<;>try simp -dsimp only[h]|refine aC ?_|fail
 all_goals first|exact⟨_,_,rfl,rfl⟩
def bcd (s:ByteArray):List Int:=s.data.toList.map λb=>cd3 (b.toNat:Int)
def pK (s:ByteArray) (w i:Nat):List Int:=(bcd s).take i++List.replicate (w-i) 0
def pun (s:ByteArray) (w:Nat):List Int:=bcd s++List.replicate (w-s.size) 0
theorem aCG (s:ByteArray):(bcd s).length=s.size:=by simp[bcd]
theorem aGB (s:ByteArray) (w:Nat):E cI (pK s w 0)=List.replicate w [.v (.int .i64 0)]:=by simp[pK,E,cI]
theorem aCS (s:ByteArray) (w:Nat):pK s w s.size=pun s w:=by
 unfold pK pun;rw[Ag (by rw[aCG];exact AL _)]
theorem yV {s:ByteArray}{w i:Nat} (h:i<=s.size) (u:s.size<=w):(pK s w i).length=w:=by
 have:=aCG s;simp[pK];omega
theorem aIw {s:ByteArray}{w i:Nat} (h:i<s.size) (J:s.size<=w):(E cI (pK s w i)).set i [.v (.int .i64 (cd3 ((s.data.toList.getD i 0).toNat:Int)))]=E cI (pK s w (i+1)):=by
 have I:=aCG s;have u:i<(bcd s).length:=by omega
 have hA:((bcd s).take i).length=i:=by simp;omega
 have H:(bcd s)[i]=cd3 ((s.data.toList.getD i 0).toNat:Int):=by
  have F:i<s.data.toList.length:=by simpa[bcd] using u
  have G:s.data.toList.getD i 0=s.data.toList[i]:=by rw[Bc,Bf F];rfl
  rw[G];simp[bcd]
 have e:(pK s w i).set i (cd3 ((s.data.toList.getD i 0).toNat:Int))=pK s w (i+1):=by
  unfold pK;rw[show w-i=(w-(i+1))+1 by omega,Ai,List.set_append,AJ (by omega),hA,C9,Ac,bU u,H];simp
 rw[←e];simp[E,Db,cI]
attribute [local irreducible] pK
attribute [local go_sem] aH Ac Ae Aa Ab Ao Dg AO AP aX bG aW Ak AA Af Ad in
theorem aIv (s:ByteArray) (w:Nat) (hw:w<=1000) (hs:s.size<=w):Fz F.pW [.v (.string s),.v (.int .i64 w)] (.agg [.sl 1 (E cI (pun s w))]):=by
 have BL:=aNg w hw;refine fn0 Cd.i_punchText_k λX=>?_;simp -dsimp only[go_sem];refine aA.own BL rfl ?_
 repeat' first|simp -dsimp only[go_sem]|apply Br.mk<;>intro h<;>try simp -dsimp only[h]|refine aC ?_|fail
 refine aO.at dM (X:={zz:Nat×(Unit) // zz.1<=s.size∧True}) (λzz=>[(6,.v (.int .i64 zz.1.1))]) (λzz=>[(.t 8 0,.arr 1 (E cI (pK s w zz.1.1)) false)]) (λzz=>s.size-zz.1.1) ⟨(0,()),by omega,trivial⟩ ?_ ?_
 .simp[Vs.LeL,Vs.look,aB,aP,aJ,Vs.hset,aK,aGB]
 .rintro⟨⟨i,_⟩,hi,hg⟩;dsimp only at hi hg;simp -dsimp only[go_sem];refine Br.mk (λhc=>?_) λhc=>?_
  .have hlt:i<s.size:=Dq;have hw:=aI hlt (by omega);have hps:=aIw (w:=w) hlt hs;have hpl:(E cI (pK s w i)).length=w:=by rw[aH];exact yV (by omega) hs
   have CO:=codeOf ((s.data.toList.getD i 0).toNat:Int)
   have hrow:∃y,(E cI (pK s w i)).getD i []=[y]:=by
    have hil:i<(pK s w i).length:=by rw[yV (by omega) hs];omega
    exact⟨.v (.int .i64 (pK s w i)[i]),by rw[aR hil];rfl⟩
   obtain⟨y,hy⟩:=hrow
   repeat' first|simp -dsimp only[go_sem,hw,hps,hpl,hy]|apply Br.mk<;>intro h<;>try simp -dsimp only[h]|refine aA.c (by first|exact CO) ?_|refine aC ?_|fail
   all_goals first|omega|(exact nx (i+1,()) trivial (h2:=by simp[Vs.LeL,Vs.look,aB,aP,aJ,Vs.hset,aK,hps]))
  .have hge:i=s.size:=by
    have:¬i<s.size:=Dq;omega
   subst hge;simp -dsimp only[go_sem];have hpf:=aCS s w;have hpl:(E cI (pun s w)).length=w:=by rw[aH,←hpf];exact yV (AL _) hs
   have htk:(E cI (pun s w)).take w=E cI (pun s w):=Ag (by omega)
   first|(rw[hpf,htk];exact⟨⟨_,_,rfl,rfl⟩,λh=>h rfl⟩)|(simp[hpf,htk];done)
end
section
variable [Vs.Envs]
attribute [local irreducible] Vs.Fn pun chOK areCh chTo chAt l03 chB rk cd3 chI stp stpTo
theorem aLn {s:ByteArray}{w:Nat} (h:s.size<=w):(pun s w).length=w:=by rw[←aCS];exact yV (AL _) h
def cmT (fr to:Int) (c:List Int) (s:ByteArray):Int:=jC (fH fr to c) (pun s (to.toNat-fr.toNat))
theorem aF8 (a:List Int) (fr to:Int) (s:ByteArray) (u:okF fr to a) (G:s.size<=to.toNat-fr.toNat):Fz F.jU [.agg (cC a),.agg (cFd fr to),.v (.string s)] (.v (.int .i64 (cmT fr to a s))):=by
 have L:=lK u;have J:=u;obtain⟨O,U,h2,I⟩:=J;have H:=aIv s (to.toNat-fr.toNat) (by omega) G;have M:IntKind.i64.wrap (to-fr)=((to.toNat-fr.toNat:Nat):Int):=by rw[aM (by omega) (by omega)];omega
 have CH:=aBd (fH fr to a) (pun s (to.toNat-fr.toNat)) (aBa u) (by rw[L,aLn G]);rw[show jC (fH fr to a) (pun s (to.toNat-fr.toNat))=cmT fr to a s from rfl] at CH;refine fn0 Cd.i_compareText_k λX=>?_
 repeat' first|simp -dsimp only[go_sem,cC,cFd,fH_E,Ac,Ae,Aa,Ab,M]|apply Br.mk<;>intro h<;>try simp -dsimp only[h]|refine RgK.mk rfl ?_|refine aA.c (by first|exact H|exact CH) ?_|refine And.intro (by first|rfl|omega|decide|exact cB u|exact⟨rfl,cB u⟩|exact bF u|exact⟨rfl,bF u⟩|(refine⟨?_,?_⟩<;>(first|rfl|omega|decide|exact cB u|exact⟨rfl,cB u⟩|exact bF u|exact⟨rfl,bF u⟩))|(refine⟨?_,?_,?_⟩<;>(first|rfl|omega|decide|exact cB u|exact⟨rfl,cB u⟩|exact bF u|exact⟨rfl,bF u⟩))|(refine⟨?_,?_,?_,?_⟩<;>(first|rfl|omega|decide|exact cB u|exact⟨rfl,cB u⟩|exact bF u|exact⟨rfl,bF u⟩))) ?_|fail
 all_goals first|exact⟨_,_,rfl,rfl⟩|simp
end
section
variable [Vs.Envs]
attribute [local irreducible] Vs.Fn pun cmT flt zR chOK areCh chTo chAt l03 chB rk cd3 chI stp stpTo
def jA (fr to:Int) (s:ByteArray) (c:List Int):Bool:=decide (cmT fr to c s<0)||decide (cmT fr to c s>0)
theorem sel1 (x:List Int) (fr to:Int) (s:ByteArray) (H:okF fr to x) (G:s.size<=to.toNat-fr.toNat):Fz F.fB [.agg (cC x),.ro (cFd fr to),.ro [.v (.string s)],.ro [.v (.string s)]] (.v (.bool (jA fr to s x))):=by
 have u:=aF8 x fr to s H G;unfold jA;generalize cmT fr to x s=v at *
 refine fn0 Cd.i_SelectBetween_1_k λX=>?_
 repeat' first|simp -dsimp only[go_sem,cC,cFd,Ai,Ah,Al,Aq,Ad,Af,Ac,Ae,Aa,Ab,Ao]|apply Br.mk<;>intro h<;>try simp -dsimp only[h]|refine aA.c (by first|exact u) ?_|refine aC ?_|fail
 all_goals first|exact⟨_,_,rfl,rfl⟩|(rw[h,De];exact⟨_,_,rfl,rfl⟩)
def lM (fr to:Int) (s:ByteArray) (l:List (List Int)):Int:=aAb fr to [s,s] [l]
def nD (fr to:Int) (s:ByteArray) (l:List (List Int)):AV:=if lM fr to s l=0 then .sl 1 (E cC (flt (jA fr to s) l)) else .v (.slice none 0 0)
theorem aHj {fr to:Int}{s:ByteArray}{l:List (List Int)} (h:lM fr to s l=0):bB l=true∧eF fr to (bL l)=true∧((s.size:Int)==W (to-fr))=true∧areCh s=true∧bW fr to l=true:=by
 unfold lM aAb at h;cases h1:bB l<;>cases h2:eF fr to (bL l)<;>cases h3:((s.size:Int)==W (to-fr))<;>cases h4:areCh s<;>cases h5:bW fr to l<;>simp[h1,h2,h3,h4,h5] at h⊢
attribute [local go_sem] Ai Ah Al Aq Ad Af Ac Ae Aa Ab Ao in
theorem aDJ (l:List (List Int)) (fr to:Int) (s:ByteArray) (I:bE l) (hz:s.size<=1048576):Fz F.jI [.sl 1 (E cC l),.agg (cFd fr to),.v (.string s),.v (.string s)] (.tup [nD fr to s l,.v (.int .i64 (lM fr to s l))]):=by
 have G:=aKF fr to [l] ⟨by simp,λd H=>by simp at H;subst H;exact I⟩ [s,s] (by simp) (λt ht=>by simp at ht;subst ht;exact hz);rw[show aAb fr to [s,s] [l]=lM fr to s l from rfl] at G;by_cases u:lM fr to s l=0
 .obtain⟨H,hf,O,ha,V⟩:=aHj u;have Z:=fE H hf;rw[show nD fr to s l=.sl 1 (E cC (flt (jA fr to s) l)) by simp[nD,u],u];rw[u] at G
  have M:∀x,x∈l->s.size<=to.toNat-fr.toNat:=λx J=>by
   have U:((s.size:Int))=W (to-fr):=by simpa using O
   obtain⟨f0,f1,f2,f3⟩:=Z x J;rw[show W (to-fr)=to-fr from aM (by omega) (by omega)] at U;omega
  have L:=delF (jA fr to s) F.fB [.ro (cFd fr to),.ro [.v (.string s)],.ro [.v (.string s)]] rfl l I.1 (λx J=>sel1 x fr to s (Z x J) (M x J));refine fn0 Cd.i_SelectBetween_k λX=>?_
  repeat' first|simp -dsimp only[go_sem,cC,cFd]|apply Br.mk<;>intro h<;>try simp -dsimp only[h]|refine aA.c (by first|exact G) ?_|refine aC ?_|fail
  refine aA.own (aAU l I.2 I.1) rfl ?_;simp -dsimp only[go_sem,cC,cFd,AO,AP,aX,bG,aW,Ak,AA,Ar,Ay,Az,Bo,Bq,Vs.Name.t.injEq];refine⟨rfl,aA.borL L rfl ?_⟩;simp -dsimp only[go_sem,cC,cFd,AO,AP,aX,bG,aW,Ak,AA,Ar,Ay,Az,Bo,Bq,Vs.Name.t.injEq];have hr:=aFh (flt (jA fr to s) l) (l.length-(flt (jA fr to s) l).length);have Y:(flt (jA fr to s) l).length<=l.length:=zT ..
  simp -dsimp only[go_sem,A7,Di,aH,AC,hr]
  first|exact⟨_,_,rfl,rfl⟩
 .have e0:(lM fr to s l != 0)=true:=by simp[u]
  rw[show nD fr to s l=.v (.slice none 0 0) by simp[nD,u]];generalize lM fr to s l=c at *
  refine fn0 Cd.i_SelectBetween_k λX=>?_
  repeat' first|simp -dsimp only[go_sem,cC,cFd,e0]|apply Br.mk<;>intro h<;>try simp -dsimp only[h]|refine aA.c (by first|exact G) ?_|refine aC ?_|fail
  all_goals first|exact⟨_,_,rfl,rfl⟩
theorem aBw (l:List (List Int)) (fr to:Int) (s:ByteArray) (H:bE l) (I:s.size<=1048576):Fz F.lX [.sl 1 (E cC l),.agg (cFd fr to),.v (.string s)] (.tup [nD fr to s l,.v (.int .i64 (lM fr to s l))]):=by
 have G:=aDJ l fr to s H I;have u:nD fr to s l=.sl 1 (E cC (flt (jA fr to s) l))∨nD fr to s l=.v (.slice none 0 0):=by unfold nD;split<;>simp
 generalize lM fr to s l=c at *
 rcases u with u|u<;>rw[u] at G⊢
 all_goals
  refine fn0 Cd.i_SelectEqual_k λX=>?_
  repeat' first|simp -dsimp only[go_sem,cC,cFd,Ai,Ah,Al,Aq,Ad,Af,Ac,Ae,Aa,Ab,Ao]|apply Br.mk<;>intro h<;>try simp -dsimp only[h]|refine aA.c (by first|exact G) ?_|refine aC ?_|fail
  all_goals first|exact⟨_,_,rfl,rfl⟩
end
section
variable [Vs.Envs]
attribute [local irreducible] Vs.Fn pun cmT flt zR chOK areCh chTo chAt l03 chB rk cd3 chI stp stpTo
end
section
variable [Vs.Envs]
attribute [local irreducible] Vs.Fn pun cmT zR chOK areCh chTo chAt l03 chB rk cd3 chI stp stpTo
theorem aGD {l:List (List Int)}{fr to:Int} (G:bB l=true) (F:kX fr to (bL l)=true):∀c,c∈l->okP fr to c:=by
 intro c H;unfold kX at F;rw[Au] at F;obtain⟨J,L,h2,M⟩:=fE G F.1 c H;have I:=F.2;rw[show W (to-fr)=to-fr from aM (by omega) (by omega)] at I;simp only[bB,Au,Aw,Bb] at G;obtain⟨u,O⟩:=G.1 c H;simp only[gL,inB,Au,Aw,Bb] at u;exact⟨J,L,h2,by simpa using I,M,λy U=>u.1 y U⟩
theorem aFa {fr to:Int}{l:List (List Int)} (G:∀c,c∈l->okF fr to c) (F:l.length<=40):∀c,c∈eU fr to l->c∈l:=by
 intro c u;obtain⟨i,hi,rfl⟩:=BG.1 u;exact nL (aEJ G F i hi)
theorem aFb (fr to:Int) (l:List (List Int)):(eU fr to l).length=l.length:=by unfold eU;rw[BC,uU]
end
section
variable [Vs.Envs]
attribute [local irreducible] Vs.Fn chOK areCh chTo chAt l03 chB rk cd3 chI stp stpTo
attribute [local go_sem] cFd aH Ai Ah Al Aq Ad Af Ac Ae Aa Ab Ao in
theorem aCv (l:List (List Int)) (hk:bE l):Fz F.oP [.sl 1 (E cC l)] (.sl 1 (E cC l)):=by
 refine fn0 Cd.s_l02Copy_k λX=>?_
 repeat' first|simp -dsimp only[go_sem,cC]|apply Br.mk<;>intro h<;>try simp -dsimp only[h]|refine aC ?_|fail
 refine aO.at dM (X:={zz:Nat×(Unit) // zz.1<=l.length∧True}) (λzz=>[(3,.loc (.t 3 0) 0 zz.1.1),(4,.v (.int .i64 zz.1.1))]) (λzz=>[(.t 3 0,.arr 1 (E cC (l.take zz.1.1)) false)]) (λzz=>l.length-zz.1.1) ⟨(0,()),by omega,trivial⟩ ?_ ?_
 .simp[Vs.LeL,Vs.look,aB,aP,aJ,Vs.hset,aK,Vs.E]
 .rintro⟨⟨i,_⟩,hi,hg⟩;dsimp only at hi hg;simp -dsimp only[go_sem,cC];refine Br.mk (λhc=>?_) λhc=>?_
  .have hlt:i<l.length:=Dq;have hw:=aI hlt (hk.1);have hm:(E cC l).getD i []=[.sl 1 (E cI l[i])]:=aR hlt;have NC:=xS l[i] (hk.2 _ (Am hlt));have hap:E cC (l.take i)++[[.sl 1 (E cI l[i])]]=E cC (l.take (i+1)):=by rw[bU hlt,aS];rfl
   have hal:(E cC (l.take i)).length=i:=by rw[aH];simp;omega
   have hl:=hk.1
   repeat' first|simp -dsimp only[go_sem,hm,hw,hap,hal,cC]|apply Br.mk<;>intro h<;>try simp -dsimp only[h]|refine aA.c (by first|exact NC) ?_|refine aC ?_|fail
   all_goals first|omega|(exact nx (i+1,()) trivial (h2:=by simp[Vs.LeL,Vs.look,aB,aP,aJ,Vs.hset,aK,hap]))
  .have hge:i=l.length:=by
    have:¬i<l.length:=Dq;omega
   subst hge;simp -dsimp only[go_sem,cC]
   have htk:(E cC (l.take l.length)).take l.length=E cC l:=by
    rw[Ag (AL l.length)];exact Ag (by rw[aH];exact AL _)
   first|exact⟨⟨_,_,rfl,rfl⟩,λh=>h rfl⟩|(rw[htk];exact⟨⟨_,_,rfl,rfl⟩,λh=>h rfl⟩)|(simp[htk];done)
end
section
variable [Vs.Envs]
attribute [local irreducible] Vs.Fn chOK areCh chTo chAt l03 chB rk cd3 chI stp stpTo stb pM mgK mgI skp iL stF bD jY
theorem aEp {l:List (List Int)}{i:Nat} (h:i<l.length):(E cC l).getD i []=[.sl 1 (E cI (l.getD i []))]:=by rw[aR h];simp[cC,List.getD,h]
theorem aFK {fr to:Int}{l:List (List Int)}{i:Nat} (h:i<l.length):(E cSt (bT fr to l)).getD i []=[.v (.string (txt (fH fr to (l.getD i []))))]:=by
 rw[aR (by simpa[bT] using h)];simp[cSt,bT,List.getD,h]
theorem aCr {l:List (List Int)}{i:Nat} (h:i<l.length):l.getD i []∈l:=by rw[show l.getD i []=l[i] by simp[List.getD,h]];exact Am h
theorem aHa (G:Int->List Int) (p:List Int) (x:Int):E cC (p.map G)++[[.sl 1 (E cI (G x))]]=E cC ((p++[x]).map G):=by rw[Cm,aS];rfl
attribute [local go_sem] cFd cD Ai Ah Al Aq Ad Af Ac Ae Aa Ab Ao aH in
theorem aDb (a b:List (List Int)) (fr to:Int) (ha:bE a) (hb:bE b) (oa:∀c,c∈a->okF fr to c) (ob:∀c,c∈b->okF fr to c) (ca:bW fr to a=true) (cb:bW fr to b=true) (h40:a.length+b.length<=40) :
  Fz F.rG [.sl 1 (E cC a),.sl 1 (E cC b),.sl 1 (E cSt (bT fr to a)),.sl 1 (E cSt (bT fr to b))] (.sl 1 (E cC ((mgF (cfO fr to (a++b)) a.length b.length).map λi=>(a++b).getD i.toNat []))):=by
 have hkl:=uY fr to a;have hkm:=uY fr to b
 have hcmp:∀i k:Nat,i<a.length->k<b.length->Fz F.fZ [.v (.string (txt (fH fr to (b.getD k [])))),.v (.string (txt (fH fr to (a.getD i []))))] (.v (.int .i64 (cfO fr to (a++b) ((a.length+k:Nat):Int) (i:Int)))):=by
  intro i k hi hk
  have e:cfO fr to (a++b) ((a.length+k:Nat):Int) (i:Int)=jC (fH fr to (b.getD k [])) (fH fr to (a.getD i [])):=by
   unfold cfO;rw[Bw,Bw,aH5 hi,aH4];rfl
  rw[e];have m1:=aCr hi;have m2:=aCr hk;exact wD _ _ (aBa (ob _ m2)) ((lK (ob _ m2)).trans (lK (oa _ m1)).symm) (Aw.1 cb _ m2) (Aw.1 ca _ m1)
 have gA:∀i:Nat,i<a.length->(λi:Int=>(a++b).getD i.toNat []) (i:Int)=a.getD i []:=λi hi=>by show(a++b).getD (i:Int).toNat []=_;rw[Bw,aH5 hi]
 have gB:∀j:Nat,(λi:Int=>(a++b).getD i.toNat []) ((a.length+j:Nat):Int)=b.getD j []:=λj=>by show(a++b).getD ((a.length+j:Nat):Int).toNat []=_;rw[Bw,aH4]
 have hdr:∀k,k<=b.length->(rng (a.length+k) (b.length-k)).map (λi=>(a++b).getD i.toNat [])=b.drop k:=by
  intro k hk;apply List.ext_getElem
  .simp[yT]
  .intro j h1 h2;simp only[BC,yT] at h1;simp only[rng,List.getElem_map,List.getElem_range',List.getElem_drop,Nat.one_mul];have g2:=gB (k+j);simp only at g2;rw[show a.length+k+j=a.length+(k+j) by omega,g2];simp[List.getD,(by omega:k+j<b.length)]
 generalize(λi:Int=>(a++b).getD i.toNat [])=G at *
 generalize cfO fr to (a++b)=cf at *
 refine fn0 Cd.s_l09Merge_k λX=>?_
 repeat' first|simp -dsimp only[go_sem,cC,hkl,hkm]|apply Br.mk<;>intro h<;>try simp -dsimp only[h]|refine aC ?_|fail
 refine aO.at dM (X:={zz:Nat×(Unit) // zz.1<=a.length∧True}) (λzz=>[(9,.loc (.t 9 0) 0 (mgI cf a.length b.length zz.1.1).length),(10,.v (.int .i64 (mgK cf a.length b.length zz.1.1:Nat))),(11,.v (.int .i64 zz.1.1))]) (λzz=>[(.t 9 0,.arr 1 (E cC ((mgI cf a.length b.length zz.1.1).map G)) false)]) (λzz=>a.length-zz.1.1) ⟨(0,()),by omega,trivial⟩ ?_ ?_
 .simp[Vs.LeL,Vs.look,aB,aP,aJ,Vs.hset,aK,Vs.E,mgI,mgK]
 .rintro⟨⟨i,_⟩,hi,hg⟩;dsimp only at hi hg;simp -dsimp only[go_sem,cC,hkl,hkm];refine Br.mk (λhc=>?_) λhc=>?_
  .have hlt:i<a.length:=Dq;have hw:=aI hlt (by omega);have hki:=vX cf a.length b.length i;have hki1:=vX cf a.length b.length (i+1);have hkg:=aEN cf a.length b.length i;have hli:=aCp cf a.length b.length i;have hli1:=aCp cf a.length b.length (i+1);have hs0:skp cf a.length i (b.length-mgK cf a.length b.length i) (mgK cf a.length b.length i)=mgK cf a.length b.length (i+1):=by rw[mgK]
   have hmI:mgI cf a.length b.length (i+1)=mgI cf a.length b.length i++rng (a.length+mgK cf a.length b.length i) (mgK cf a.length b.length (i+1)-mgK cf a.length b.length i)++[(i:Int)]:=by rw[mgI]
   have hga:=gA i hlt;have xa:=aFK (fr:=fr) (to:=to) hlt;have xc:=aEp hlt;have hc20:(a.getD i []).length<=20:=(oa _ (aCr hlt)).2.2.2;have NA:=xS (a.getD i []) (by omega);generalize hK:mgK cf a.length b.length i=k0 at *
   generalize hK1:mgK cf a.length b.length (i+1)=k1 at *
   generalize hO:mgI cf a.length b.length i=o at *
   generalize hO1:mgI cf a.length b.length (i+1)=o1 at *
   simp -dsimp only[go_sem,hw,cC,hkl,hkm];refine aO.at dM (X:={k:Nat // k0<=k∧k<=b.length∧skp cf a.length i (b.length-k) k=k1}) (λk=>[(9,.loc (.t 9 0) 0 (o.length+(k.1-k0))),(10,.v (.int .i64 (k.1:Nat))),(16,.junk)]) (λk=>[(.t 9 0,.arr 1 (E cC ((o++rng (a.length+k0) (k.1-k0)).map G)) false)]) (λk=>b.length-k.1) ⟨k0,AL _,hki,hs0⟩ ?_ ?_
   .simp[Vs.LeL,Vs.look,aB,aP,aJ,Vs.hset,aK,C9,aJx]
   .rintro⟨k,hk0,hkb,hks⟩
    try dsimp only at hk0 hkb hks
    by_cases hlk:k<b.length
    .have e1:decide ((k:Int)<(b.length:Int))=true:=by simp;omega
     have w1:IntKind.i64.wrap ((k:Int)+1)=((k+1:Nat):Int):=by rw[aM (by omega) (by omega)];omega
     rw[aJp hlk] at hks;have yb:=aFK (fr:=fr) (to:=to) hlk;have yc:=aEp hlk;have HC:=hcmp i k hlt hlk;have hgb:=gB k;have hb20:(b.getD k []).length<=20:=(ob _ (aCr hlk)).2.2.2;have NB:=xS (b.getD k []) (by omega);by_cases hneg:cf ((a.length+k:Nat):Int) (i:Int)<0
     .have e2:decide (cf ((a.length+k:Nat):Int) (i:Int)<0)=true:=AR hneg;rw[AY hneg] at hks
      have hap:E cC ((o++rng (a.length+k0) (k-k0)).map G)++[[.sl 1 (E cI (b.getD k []))]]=E cC ((o++rng (a.length+k0) (k+1-k0)).map G):=by
       rw[show k+1-k0=(k-k0)+1 by omega,aFi,show a.length+k0+(k-k0)=a.length+k by omega,←Bp,←aHa,hgb]
      have hal:(E cC ((o++rng (a.length+k0) (k-k0)).map G)).length=o.length+(k-k0):=by rw[aH];simp[yT]
      have hsum:o.length+(k-k0)+1=o.length+(k+1-k0):=by omega
      repeat' first|simp -dsimp only[go_sem,e1,e2,w1,yb,yc,xa,xc,hap,hal,cC,hkl,hkm]|apply Br.mk<;>intro h<;>try simp -dsimp only[h]|refine aA.c (by first|exact HC|exact NB) ?_|refine aC ?_|fail
      all_goals first|omega|(refine⟨⟨k+1,by omega,by omega,hks⟩,?_,by simp only;omega⟩;simp[Vs.LeL,Vs.look,aB,aP,aJ,Vs.hset,aK,hsum])
     .have e2:decide (cf ((a.length+k:Nat):Int) (i:Int)<0)=false:=AX hneg;rw[AJ hneg] at hks;subst hks
      have hap:E cC ((o++rng (a.length+k0) (k-k0)).map G)++[[.sl 1 (E cI (a.getD i []))]]=E cC (o1.map G):=by
       rw[hmI,←aHa,hga]
      have hal:(E cC ((o++rng (a.length+k0) (k-k0)).map G)).length=o.length+(k-k0):=by rw[aH];simp[yT]
      have hsum:o.length+(k-k0)+1=o1.length:=by omega
      repeat' first|simp -dsimp only[go_sem,e1,e2,w1,yb,yc,xa,xc,hap,hal,hw,hsum,cC,hkl,hkm]|apply Br.mk<;>intro h<;>try simp -dsimp only[h]|refine aA.c (by first|exact HC|exact NA) ?_|refine And.intro ?_ (λh=>absurd rfl h)|refine And.intro ?_ (λh=>absurd rfl h)|refine aC ?_|fail
      all_goals first|omega|(exact⟨⟨(i+1,()),by omega,trivial⟩,by simp[Vs.LeL,Vs.look,aB,aP,aJ,Vs.hset,aK,hsum,hO1,hK1],by simp only;omega⟩)
    .obtain rfl:k=b.length:=by omega
     have e1:decide ((b.length:Int)<(b.length:Int))=false:=by simp
     rw[aJo (by omega)] at hks;subst hks
     have hap:E cC ((o++rng (a.length+k0) (b.length-k0)).map G)++[[.sl 1 (E cI (a.getD i []))]]=E cC (o1.map G):=by
      rw[hmI,←aHa,hga]
     have hal:(E cC ((o++rng (a.length+k0) (b.length-k0)).map G)).length=o.length+(b.length-k0):=by rw[aH];simp[yT]
     have hsum:o.length+(b.length-k0)+1=o1.length:=by omega
     repeat' first|simp -dsimp only[go_sem,e1,xa,xc,hap,hal,hw,hsum,cC,hkl,hkm]|apply Br.mk<;>intro h<;>try simp -dsimp only[h]|refine aA.c (by first|exact NA) ?_|refine And.intro ?_ (λh=>absurd rfl h)|refine And.intro ?_ (λh=>absurd rfl h)|refine aC ?_|fail
     all_goals first|omega|(exact⟨⟨(i+1,()),by omega,trivial⟩,by simp[Vs.LeL,Vs.look,aB,aP,aJ,Vs.hset,aK,hsum,hO1,hK1],by simp only;omega⟩)
  .have hge:i=a.length:=by
    have:¬i<a.length:=Dq;omega
   subst hge;simp -dsimp only[go_sem,cC,hkl,hkm];have hka:=vX cf a.length b.length a.length;have hli:=aCp cf a.length b.length a.length;have hd2:=hdr _ hka
   have hfin:E cC ((mgI cf a.length b.length a.length).map G)++E cC (b.drop (mgK cf a.length b.length a.length))=E cC ((mgF cf a.length b.length).map G):=by
    rw[←hd2,←aS,←Cm];rfl
   have hfl:=aLA cf a.length b.length;have hdE:(E cC b).drop (mgK cf a.length b.length a.length)=E cC (b.drop (mgK cf a.length b.length a.length)):=by simp[E,CW]
   have hdl:(b.drop (mgK cf a.length b.length a.length)).length=b.length-mgK cf a.length b.length a.length:=by simp
   have CP:=aCv (b.drop (mgK cf a.length b.length a.length)) ⟨by omega,λc hc=>by have:=(ob c (CU hc)).2.2.2;omega⟩;have hal:(E cC ((mgI cf a.length b.length a.length).map G)).length=(mgI cf a.length b.length a.length).length:=by rw[aH];simp
   have hsum:(mgI cf a.length b.length a.length).length+(b.length-mgK cf a.length b.length a.length)=a.length+b.length:=by omega
   have htk:(E cC ((mgF cf a.length b.length).map G)).take (a.length+b.length)=E cC ((mgF cf a.length b.length).map G):=Ag (by rw[aH,BC];omega);generalize mgF cf a.length b.length=mf at *
   generalize mgK cf a.length b.length a.length=k at *
   generalize mgI cf a.length b.length a.length=o at *
   refine⟨?_,λh=>h rfl⟩
   repeat' first|simp -dsimp only[go_sem,hdE,hdl,hal,hfin,hsum,htk,cC,hkl,hkm]|apply Br.mk<;>intro h<;>try simp -dsimp only[h]|refine aA.c (by first|exact CP) ?_|refine aC ?_|fail
   all_goals first|omega|exact⟨_,_,rfl,rfl⟩
end
end Go.Proofs.YtmiiohemehacjaaGreatDoor
