/- Merging: the program and the reference. -/
import Derived.Test.YtklmdppgonhflaaGreatDoorXwSm
import Derived.Test.YtklmdppgonhflaaGreatDoorXwSh
import Derived.Test.YtklmdppgonhflaaGreatDoorXwD
import Derived.Test.YtklmdppgonhflaaGreatDoorXwQd
import Derived.Test.YtklmdppgonhflaaGreatDoorXwQb
import Derived.Test.YtklmdppgonhflaaGreatDoorVtR
import Derived.Test.YtklmdppgonhflaaGreatDoorXuF
import Derived.Test.YtklmdppgonhflaaGreatDoorXuR
set_option linter.all false
set_option maxHeartbeats 8000000
namespace Go.Proofs.YtklmdppgonhflaaGreatDoor
open Go.Vs
section
variable [Vs.Envs]
attribute [local irreducible] Vs.Fn dJ bB dK dL l03 chB rk cd3 chI stb qU
theorem aEk {fr to:Int}{l:List (List Int)}:∀n,bD fr to l n=[]->∀i,i<n->¬cmF fr to (l.getD (i+1) []) (l.getD i [])<0
 |0,_,i,hi=>by omega
 | n+1,h,i,hi=>by
  rw[bD] at h;obtain⟨F,h2⟩:=List.append_eq_nil_iff.1 h;by_cases hin:i=n
  .subst hin;intro G;rw[AP G] at h2;cases h2
  .exact aEk n F i (by omega)
theorem aL8 {fr to:Int}{l:List (List Int)} (h:jC fr to l=true):∀i,i+1<l.length->¬cmF fr to (l.getD (i+1) []) (l.getD i [])<0:=by
 intro i hi
 have F:stp fr to l=[]:=by
  unfold jC at h;have:=BO.1 h;exact Bv (by omega)
 exact aEk (l.length-1) F i (by omega)
def skp (cf:Int->Int->Int) (na:Nat) (i:Nat):Nat->Nat->Nat
 |0,k=>k
 |m+1,k=>if cf ((na+k:Nat):Int) (i:Int)<0 then skp cf na i m (k+1) else k
def mgK (cf:Int->Int->Int) (na nb:Nat):Nat->Nat
 |0=>0
 |i+1=>skp cf na i (nb-mgK cf na nb i) (mgK cf na nb i)
def rng (a n:Nat):List Int:=(List.range' a n).map λj:Nat=>(j:Int)
def mgI (cf:Int->Int->Int) (na nb:Nat):Nat->List Int
 |0=>[]
 |i+1=>mgI cf na nb i++rng (na+mgK cf na nb i) (mgK cf na nb (i+1)-mgK cf na nb i)++[(i:Int)]
def mgF (cf:Int->Int->Int) (na nb:Nat):List Int:=mgI cf na nb na++rng (na+mgK cf na nb na) (nb-mgK cf na nb na)
theorem aKJ (a:Nat):rng a 0=[]:=rfl
theorem aFW (a n:Nat):rng a (n+1)=rng a n++[((a+n:Nat):Int)]:=by
 simp[rng,List.range'_concat]
theorem aAb (a n:Nat):(rng a n).length=n:=by simp[rng]
theorem aIg {a n:Nat}{x:Int} (h:x∈rng a n):∃j,a<=j∧j<a+n∧x=(j:Int):=by
 obtain⟨j,G,rfl⟩:=Bq.1 h;obtain⟨F,h2⟩:=Dw.1 G;exact⟨j,F,h2,rfl⟩
theorem aFa (a m n:Nat):rng a m++rng (a+m) n=rng a (m+n):=by
 simp[rng,←Bu,List.range'_append]
theorem aKB {cf:Int->Int->Int}{na i nb k:Nat} (h:k<nb):skp cf na i (nb-k) k=if cf ((na+k:Nat):Int) (i:Int)<0 then skp cf na i (nb-(k+1)) (k+1) else k:=by
 rw[show nb-k=(nb-(k+1))+1 by omega,skp]
theorem aKA {cf:Int->Int->Int}{na i nb k:Nat} (h:¬k<nb):skp cf na i (nb-k) k=k:=by
 rw[show nb-k=0 by omega,skp]
theorem aHe (cf:Int->Int->Int) (na i:Nat):∀m k,k<=skp cf na i m k∧skp cf na i m k<=k+m
 |0,k=>by simp[skp]
 | m+1,k=>by
  rw[skp];split
  .have:=aHe cf na i m (k+1);omega
  .omega
theorem aKC (cf:Int->Int->Int) (na i:Nat):∀m k j,k<=j->j<skp cf na i m k->cf ((na+j:Nat):Int) (i:Int)<0
 |0,k,j,h1,h2=>by rw[skp] at h2;omega
 | m+1,k,j,h1,h2=>by
  rw[skp] at h2;split at h2
  .rename_i F;by_cases G:j=k
   .subst G;exact F
   .exact aKC cf na i m (k+1) j (by omega) h2
  .omega
theorem aKD (cf:Int->Int->Int) (na i:Nat):∀m k,skp cf na i m k<k+m->¬cf ((na+skp cf na i m k:Nat):Int) (i:Int)<0
 |0,k,h=>by rw[skp] at h;omega
 | m+1,k,h=>by
  rw[skp] at h⊢;split at h
  .rename_i F;rw[AP F];exact aKD cf na i m (k+1) (by omega)
  .rename_i F;rw[AC F];exact F
theorem xC (cf:Int->Int->Int) (na nb:Nat):∀i,mgK cf na nb i<=nb
 |0=>Nat.zero_le _
 | i+1=>by
  have h:=xC cf na nb i;have:=aHe cf na i (nb-mgK cf na nb i) (mgK cf na nb i);rw[mgK];omega
theorem aFl (cf:Int->Int->Int) (na nb i:Nat):mgK cf na nb i<=mgK cf na nb (i+1):=by
 rw[mgK];exact(aHe cf na i _ _).1
theorem aCO (cf:Int->Int->Int) (na nb:Nat):∀i,(mgI cf na nb i).length=i+mgK cf na nb i
 |0=>rfl
 | i+1=>by
  have:=aCO cf na nb i;have h2:=aFl cf na nb i;rw[mgI];simp only[AX,Cf,aAb,this];omega
theorem aF8 (cf:Int->Int->Int) (na nb:Nat):∀i,(mgI cf na nb i).Perm (rng 0 i++rng na (mgK cf na nb i))
 |0=>by simp[mgI,mgK,rng]
 | i+1=>by
  have F:=aF8 cf na nb i;have h2:=aFl cf na nb i;rw[mgI,aFW]
  have e:rng na (mgK cf na nb (i+1))=rng na (mgK cf na nb i)++rng (na+mgK cf na nb i) (mgK cf na nb (i+1)-mgK cf na nb i):=by
   rw[aFa];congr 1;omega
  rw[e];generalize rng (na+mgK cf na nb i) (mgK cf na nb (i+1)-mgK cf na nb i)=r at *
  generalize rng na (mgK cf na nb i)=q at *
  generalize rng 0 i=p at *
  generalize mgI cf na nb i=o at *
  rw[Ca]
  calc o++r++[(i:Int)] |>.Perm (p++q++r++[(i:Int)]):=CV _ (CV _ F)
   _ |>.Perm (p++((q++r)++[(i:Int)])):=by rw[Bz,Bz,Bz]
   _ |>.Perm (p++([(i:Int)]++(q++r))):=List.Perm.append_left _ List.perm_append_comm
   _ |>.Perm (p++[(i:Int)]++(q++r)):=by rw[Bz]
theorem aLx (n:Nat):iota n=rng 0 n:=by simp[iota,rng,DI]
theorem aF9 (cf:Int->Int->Int) (na nb:Nat):(mgF cf na nb).Perm (iota (na+nb)):=by
 have H:=aF8 cf na nb na;have h2:=xC cf na nb na;unfold mgF;rw[aLx]
 have e:rng 0 (na+nb)=rng 0 na++rng na (mgK cf na nb na)++rng (na+mgK cf na nb na) (nb-mgK cf na nb na):=by
  have F:=aFa 0 na (mgK cf na nb na);have G:=aFa 0 (na+mgK cf na nb na) (nb-mgK cf na nb na);rw[Ca] at F G;rw[F,G];congr 1;omega
 rw[e];exact CV _ H
theorem aM0 (cf:Int->Int->Int) (na nb:Nat):(mgF cf na nb).length=na+nb:=by rw[(aF9 cf na nb).length_eq,oP]
section
variable {cf:Int->Int->Int}{R:Int->Int->Prop}{na nb:Nat} (htr:∀x y z,R x y->R y z->R x z)
 (hlt:∀i j:Nat,i<na->j<nb->cf ((na+j:Nat):Int) (i:Int)<0->R ((na+j:Nat):Int) (i:Int))
 (hge:∀i j:Nat,i<na->j<nb->¬cf ((na+j:Nat):Int) (i:Int)<0->R (i:Int) ((na+j:Nat):Int))
 (hA:∀i j:Nat,i<j->j<na->R (i:Int) (j:Int)) (hB:∀i j:Nat,i<j->j<nb->R ((na+i:Nat):Int) ((na+j:Nat):Int))
include htr hlt hge hA hB
theorem aIv:∀i,i<=na->(mgI cf na nb i).Pairwise R∧(∀x,x∈mgI cf na nb i->∀j:Nat,i<=j->j<na->R x (j:Int))∧(∀x,x∈mgI cf na nb i->∀j:Nat,mgK cf na nb i<=j->j<nb->R x ((na+j:Nat):Int))
 |0,_=>⟨List.Pairwise.nil,λx F=>(by cases F),λx F=>(by cases F)⟩
 | i+1,hi=>by
  obtain⟨h1,h2,h3⟩:=aIv i (by omega);have hk:=aFl cf na nb i;have hf:=xC cf na nb (i+1);have he:=xC cf na nb i;have V:∀j,mgK cf na nb i<=j->j<mgK cf na nb (i+1)->cf ((na+j:Nat):Int) (i:Int)<0:=λj a b=>aKC cf na i _ _ j a (by rw[mgK] at b;exact b)
  have Y:mgK cf na nb (i+1)<nb->¬cf ((na+mgK cf na nb (i+1):Nat):Int) (i:Int)<0:=λh=>by
   have:=aKD cf na i (nb-mgK cf na nb i) (mgK cf na nb i);rw[mgK] at h⊢;exact this (by omega)
  rw[mgI];generalize hK:mgK cf na nb i=k at *
  generalize hc:mgK cf na nb (i+1)=k' at *
  have U:∀x,x∈rng (na+k) (k'-k)->∃j,k<=j∧j<k'∧x=((na+j:Nat):Int):=λx F=>by
   obtain⟨j,a,b,rfl⟩:=aIg F;exact⟨j-na,by omega,by omega,by congr 1;omega⟩
  have H:∀x,x∈rng (na+k) (k'-k)->R x (i:Int):=λx F=>by
   obtain⟨j,a,b,rfl⟩:=U x F;exact hlt i j (by omega) (by omega) (V j a b)
  have G:∀j:Nat,i<j->j<na->R (i:Int) (j:Int):=λj a b=>hA i j a b
  have J:∀j:Nat,k'<=j->j<nb->R (i:Int) ((na+j:Nat):Int):=λj a b=>by
   have Z:=hge i k' (by omega) (by omega) (Y (by omega));by_cases hj:j=k'
   .subst hj;exact Z
   .exact htr _ _ _ Z (hB k' j (by omega) b)
  have M:∀x,x∈mgI cf na nb i->R x (i:Int):=λx F=>h2 x F i (Au _) (by omega)
  have O:∀x,x∈mgI cf na nb i->∀y,y∈rng (na+k) (k'-k)->R x y:=λx F y I=>by
   obtain⟨j,a,b,rfl⟩:=U y I;exact h3 x F j a (by omega)
  refine⟨?_,?_,?_⟩
  .rw[Bo,Bo];refine⟨⟨h1,?_,O⟩,List.pairwise_singleton _ _,λx F y I=>?_⟩
   .unfold rng;rw[List.pairwise_map];refine List.Pairwise.imp_of_mem (R:=λa b=>a<b) ?_ List.pairwise_lt_range';intro a b ha hb hd;obtain⟨a1,a2⟩:=Dw.1 ha;obtain⟨b1,b2⟩:=Dw.1 hb;have:=hB (a-na) (b-na) (by omega) (by omega)
    rwa [show na+(a-na)=a by omega,show na+(b-na)=b by omega] at this
   .rw[Av] at I;subst I;rcases Bg.1 F with F|F
    .exact M x F
    .exact H x F
  .intro x F j a b;rcases Bg.1 F with F|F
   .rcases Bg.1 F with F|F
    .exact h2 x F j (by omega) b
    .exact htr _ _ _ (H x F) (G j (by omega) b)
   .rw[Av] at F;subst F;exact G j (by omega) b
  .intro x F j a b;rcases Bg.1 F with F|F
   .rcases Bg.1 F with F|F
    .exact h3 x F j (by omega) b
    .obtain⟨j',a',b',rfl⟩:=U x F;exact hB j' j (by omega) b
   .rw[Av] at F;subst F;exact J j a b
theorem aMZ:(mgF cf na nb).Pairwise R:=by
 obtain⟨F,h2,G⟩:=aIv htr hlt hge hA hB na (Au _);unfold mgF;rw[Bo];refine⟨F,?_,λx O y U=>?_⟩
 .unfold rng;rw[List.pairwise_map];refine List.Pairwise.imp_of_mem (R:=λa b=>a<b) ?_ List.pairwise_lt_range';intro a b H J I;obtain⟨V,Y⟩:=Dw.1 H;obtain⟨Z,b2⟩:=Dw.1 J;have M:=xC cf na nb na;have:=hB (a-na) (b-na) (by omega) (by omega)
  rwa [show na+(a-na)=a by omega,show na+(b-na)=b by omega] at this
 .obtain⟨j,a,b,rfl⟩:=aIg U;have M:=xC cf na nb na;have:=G x O (j-na) (by omega) (by omega)
  rwa [show na+(j-na)=j by omega] at this
end
theorem aKV {R:Nat->Nat->Prop} (htr:∀x y z,R x y->R y z->R x z) {n:Nat} (h:∀i,i+1<n->R i (i+1)):∀i j,i<j->j<n->R i j:=by
 intro i j G F;obtain⟨d,rfl⟩:∃d,j=i+1+d:=⟨j-(i+1),by omega⟩
 induction d with
 |zero=>exact h i F
 |succ d ih=>exact htr _ _ _ (ih (by omega) (by omega)) (h (i+1+d) F)
theorem aI3 {a b:List (List Int)}{i:Nat} (h:i<a.length):(a++b).getD i []=a.getD i []:=by simp[List.getD,BC h]
theorem aI2 {a b:List (List Int)} (j:Nat):(a++b).getD (a.length+j) []=b.getD j []:=by
 simp only[List.getD];rw[Bi (by omega),Nat.add_sub_cancel_left]
theorem aHq {fr to:Int}{a b:List (List Int)} (F:∀c,c∈a++b->okF fr to c) (Z:a.length+b.length<=40) (U:jC fr to a=true) (V:jC fr to b=true) :
  mgF (cfO fr to (a++b)) a.length b.length=qU fr to (a++b):=by
 have H:(a++b).length=a.length+b.length:=by simp
 obtain⟨M,h2⟩:=aA9 F (by omega);rw[H] at M;have hin:∀i:Nat,i<a.length+b.length->inO (a++b).length (i:Int):=λi hi=>⟨by omega,by omega⟩
 have G:∀i j:Nat,i<j->j<a.length+b.length->¬cfO fr to (a++b) (j:Int) (i:Int)<0->yN fr to (a++b) (i:Int) (j:Int):=by
  intro i j Y J I;have e:=aC2 F (hin i (by omega)) (hin j J);refine⟨⟨hin i (by omega),hin j J⟩,?_⟩;by_cases O:cfO fr to (a++b) (i:Int) (j:Int)=0
  .exact .inr ⟨O,by omega⟩
  .exact .inl (by omega)
 have hA:∀i j:Nat,i<j->j<a.length->yN fr to (a++b) (i:Int) (j:Int):=by
  refine aKV (R:=λi j=>yN fr to (a++b) (i:Int) (j:Int)) (λx y z=>nD F _ _ _) λi hi=>?_;refine G i (i+1) (by omega) (by omega) ?_;have:=aL8 U i hi;unfold cfO;rw[BR,BR,aI3 hi,aI3 (by omega)];exact this
 have hB:∀i j:Nat,i<j->j<b.length->yN fr to (a++b) ((a.length+i:Nat):Int) ((a.length+j:Nat):Int):=by
  refine aKV (R:=λi j=>yN fr to (a++b) ((a.length+i:Nat):Int) ((a.length+j:Nat):Int)) (λx y z=>nD F _ _ _) λi hi=>?_;refine G _ _ (by omega) (by omega) ?_;have:=aL8 V i hi;unfold cfO;rw[BR,BR,aI2,aI2];exact this
 refine aE4 (nD F) (aBL F) ((aF9 _ _ _).trans M.symm) (aMZ (nD F) (λi j hi J I=>?_) (λi j hi J I=>?_) hA hB) h2
 .exact⟨⟨hin _ (by omega),hin _ (by omega)⟩,.inl I⟩
 .exact G i _ (by omega) (by omega) I
end
section
variable [Vs.Envs]
attribute [local irreducible] Vs.Fn dJ bB dK dL l03 chB rk cd3 chI stp bD
def bU (fr to:Int) (l:List (List Int)):Nat->List Int
 |0=>[]
 |i+1=>bU fr to l i++(if i=0∨cmF fr to (l.getD (i-1) []) (l.getD i [])≠0 then[(i:Int)] else[])
theorem uD (fr to:Int) (l:List (List Int)) (i:Nat):bU fr to l (i+1)=bU fr to l i++(if i=0∨cmF fr to (l.getD (i-1) []) (l.getD i [])≠0 then[(i:Int)] else[]):=rfl
theorem xM (fr to:Int) (l:List (List Int)):bU fr to l 0=[]:=rfl
theorem kL (fr to:Int) (l:List (List Int)):∀i,(bU fr to l i).length<=i
 |0=>Au _
 | i+1=>by
  have:=kL fr to l i;rw[uD,AX];split<;>simp<;>omega
attribute [local irreducible] bU
attribute [local go_sem] aH Af Ag Ao Aq Ae Aj Ad Al Ac Ai Ap in
theorem aGx (l:List (List Int)) (fr to:Int) (ho:∀c,c∈l->okF fr to c) (hl:l.length<=1048576):Fz F.qE [.sl 1 (E cC l),.agg (cFd fr to)] (.sl 1 (E cI (bU fr to l l.length))):=by
 refine fn0 Cd.i_groupsOf_k λX=>?_
 repeat' first|simp -dsimp only[go_sem,cC,cFd]|apply Br.mk<;>intro h<;>try simp -dsimp only[h]|refine aC ?_|refine aC9 ?_|fail
 refine aP.at dM (X:={I:Nat×(Unit) // I.1<=l.length∧True}) (λI=>[(5,.loc (.t 5 0) 0 (bU fr to l I.1.1).length),(11,.v (.int .i64 I.1.1))]) (λI=>[(.t 5 0,.arr 1 (E cI (bU fr to l I.1.1)) false)]) (λI=>l.length-I.1.1) ⟨(0,()),by omega,trivial⟩ ?_ ?_
 .simp[Vs.LeL,Vs.look,aB,aQ,aK,Vs.hset,aL,Vs.E,xM]
 .rintro⟨⟨i,_⟩,hi,hg⟩;dsimp only at hi hg;simp -dsimp only[go_sem,cC,cFd];refine Br.mk (λhc=>?_) λhc=>?_
  .have hlt:i<l.length:=Dq;have hw:=aJ hlt hl;have hd:=kL fr to l i;have Z:(E cC l).getD i []=[.sl 1 (E cI (l.getD i []))]:=by rw[aW hlt];simp[cC,List.getD,hlt]
   have M:E cI (bU fr to l i)++[[.v (.int .i64 (i:Int))]]=E cI (bU fr to l i++[(i:Int)]):=by rw[aV];rfl
   have J:(E cI (bU fr to l i)).length=(bU fr to l i).length:=aH ..
   have G:=uD fr to l i;by_cases h0:i=0
   .subst h0;rw[AP (.inl rfl)] at G;have V:(((0:Nat):Int)==0)=true:=rfl
    repeat' first|simp -dsimp only[go_sem,V,hw,M,J,Z,cC,cFd]|apply Br.mk<;>intro h<;>try simp -dsimp only[h]|refine aC ?_|refine aC9 ?_|fail
    all_goals first|omega|(exact nx (0+1,()) trivial (h2:=by simp[Vs.LeL,Vs.look,aB,aQ,aK,Vs.hset,aL,G]))
   .have V:((i:Int)==0)=false:=by simp[h0]
    have w0:IntKind.i64.wrap ((i:Int)-1)=((i-1:Nat):Int):=by rw[aI (by omega) (by omega)];omega
    have H:i-1<l.length:=by omega
    have gj:(E cC l).getD (i-1) []=[.sl 1 (E cI (l.getD (i-1) []))]:=by rw[aW H];simp[cC,List.getD,H]
    have ha:l.getD i []∈l:=by rw[show l.getD i []=l[i] by simp[List.getD,hlt]];exact Aa hlt
    have hb:l.getD (i-1) []∈l:=by rw[show l.getD (i-1) []=l[i-1] by simp[List.getD,H]];exact Aa H
    have CF:=mX (l.getD (i-1) []) (l.getD i []) fr to (ho _ hb) (ho _ ha);by_cases O:cmF fr to (l.getD (i-1) []) (l.getD i [])=0
    .have Y:(cmF fr to (l.getD (i-1) []) (l.getD i []) != 0)=false:=by rw[O];rfl
     rw[AC (by rintro(h|h)<;>contradiction),Be] at G
     repeat' first|simp -dsimp only[go_sem,V,Y,w0,hw,M,J,Z,gj,cC,cFd]|apply Br.mk<;>intro h<;>try simp -dsimp only[h]|refine aA.c (by first|exact CF) ?_|refine aC ?_|refine aC9 ?_|fail
     all_goals first|omega|(exact nx (i+1,()) trivial (h2:=by simp[Vs.LeL,Vs.look,aB,aQ,aK,Vs.hset,aL,G]))
    .have Y:(cmF fr to (l.getD (i-1) []) (l.getD i []) != 0)=true:=bne_iff_ne.2 O;rw[AP (.inr O)] at G
     repeat' first|simp -dsimp only[go_sem,V,Y,w0,hw,M,J,Z,gj,cC,cFd]|apply Br.mk<;>intro h<;>try simp -dsimp only[h]|refine aA.c (by first|exact CF) ?_|refine aC ?_|refine aC9 ?_|fail
     all_goals first|omega|(exact nx (i+1,()) trivial (h2:=by simp[Vs.LeL,Vs.look,aB,aQ,aK,Vs.hset,aL,G]))
  .have hge:i=l.length:=by
    have:¬i<l.length:=Dq;omega
   subst hge;simp -dsimp only[go_sem,cC,cFd];have U:(E cI (bU fr to l l.length)).take (bU fr to l l.length).length=E cI (bU fr to l l.length):=Ah (by rw[aH];exact Au _)
   first|exact⟨⟨_,_,rfl,rfl⟩,λh=>h rfl⟩|(rw[U];exact⟨⟨_,_,rfl,rfl⟩,λh=>h rfl⟩)|(simp[U];done)
end
section
variable [Vs.Envs]
attribute [local irreducible] Vs.Fn bU dJ bB dK dL l03 chB rk cd3 chI stp bD
theorem wJ {fr to:Int}{l:List (List Int)}:∀n x,x∈bU fr to l n->0<=x∧x<(n:Int)
 |0,x,h=>by rw[xM] at h;cases h
 | n+1,x,h=>by
  rw[uD] at h;rcases Bg.1 h with h|h
  .have:=wJ n x h;omega
  .split at h
   .simp at h;subst h;omega
   .cases h
theorem aBo {fr to:Int}{l:List (List Int)}:∀n,(bU fr to l n).Pairwise (· < ·)
 |0=>by rw[xM];exact List.Pairwise.nil
 | n+1=>by
  rw[uD,Bo];refine⟨aBo n,by split<;>simp,λa G b F=>?_⟩;have:=wJ n a G;split at F
  .simp at F;subst F;exact this.2
  .cases F
def gF (l:List (List Int)) (s:List Int) (i:Nat):List (List Int):=(l.take (if i+1<s.length then(s.getD (i+1) 0).toNat else l.length)).drop (s.getD i 0).toNat
def aDL (fr to:Int) (l:List (List Int)):List (List (List Int)):=(List.range (bU fr to l l.length).length).map (gF l (bU fr to l l.length))
attribute [local irreducible] gF
attribute [local go_sem] aH Af Ag Ao Aq Ae Aj Ad Al Ac Ai Ap in
theorem groups (l:List (List Int)) (fr to:Int) (ho:∀c,c∈l->okF fr to c) (hl:l.length<=1048576):Fz F.zD [.sl 1 (E cC l),.agg (cFd fr to)] (.sl 1 (E cD (aDL fr to l))):=by
 have GO:=aGx l fr to ho hl;have Z:=aNG l;have hb:=kL fr to l l.length;have hin:=wJ (fr:=fr) (to:=to) (l:=l) l.length;have Y:=aBo (fr:=fr) (to:=to) (l:=l) l.length;rw[show aDL fr to l=(List.range (bU fr to l l.length).length).map (gF l (bU fr to l l.length)) from rfl];generalize bU fr to l l.length=s at *
 refine fn0 Cd.i_groups_k λX=>?_
 repeat' first|simp -dsimp only[go_sem,cC,cFd,cD]|apply Br.mk<;>intro h<;>try simp -dsimp only[h]|refine aA.c (by first|exact GO) ?_|refine aC ?_|refine aC9 ?_|fail
 refine aP.at dM (X:={H:Nat×(Unit) // H.1<=s.length∧True}) (λH=>[(5,.loc (.t 5 0) 0 H.1.1),(16,.v (.int .i64 H.1.1))]) (λH=>[(.t 5 0,.arr 1 (E cD ((List.range H.1.1).map (gF l s))) false)]) (λH=>s.length-H.1.1) ⟨(0,()),by omega,trivial⟩ ?_ ?_
 .simp[Vs.LeL,Vs.look,aB,aQ,aK,Vs.hset,aL,Vs.E]
 .rintro⟨⟨i,_⟩,hi,hg⟩;dsimp only at hi hg;simp -dsimp only[go_sem,cC,cFd,cD];refine Br.mk (λhc=>?_) λhc=>?_
  .have hlt:i<s.length:=Dq;have V:=aJ hlt (by omega);have he:=hin _ (Aa hlt);have e:s.getD i 0=s[i]:=by simp[List.getD,hlt]
   have O:E cD ((List.range i).map (gF l s))++[[.sl 1 (E cC (gF l s i))]]=E cD ((List.range (i+1)).map (gF l s)):=by
    rw[Dj,Bu,aV];rfl
   have G:(E cD ((List.range i).map (gF l s))).length=i:=by rw[aH];simp
   have hd:IntKind.i64.wrap ((i:Int)+1)=((i+1:Nat):Int):=V;by_cases I:i+1<s.length
   .have M:decide (((i+1:Nat):Int)<(s.length:Int))=true:=by simp;omega
    have hf:=hin _ (Aa I);have ha:s[i]<s[i+1]:=Dg.1 Y i (i+1) hlt I (by omega)
    have J:((E cC l).take s[i+1].toNat).drop s[i].toNat=E cC (gF l s i):=by
     unfold gF;rw[AP I,e,show s.getD (i+1) 0=s[i+1] by simp[List.getD,I]];simp[E,CG,CJ]
    simp -dsimp only[go_sem,dI hlt,dI I,V,M,G,cC,cFd,cD]
    repeat' first|simp -dsimp only[go_sem,dI hlt,dI I,V,M,O,G,J,cC,cFd,cD]|apply Br.mk<;>intro h<;>try simp -dsimp only[h]|refine aA.c (by first|exact Z) ?_|refine aC ?_|refine aC9 ?_|fail
    all_goals first|omega|(exact nx (i+1,()) trivial (h2:=by simp[Vs.LeL,Vs.look,aB,aQ,aK,Vs.hset,aL,Dj]))
   .have M:decide (((i+1:Nat):Int)<(s.length:Int))=false:=by simp;omega
    have J:(E cC l).drop s[i].toNat=E cC (gF l s i):=by
     unfold gF;rw[AC I,e,Ah (Au _)];simp[E,CJ]
    simp -dsimp only[go_sem,dI hlt,V,M,G,cC,cFd,cD]
    repeat' first|simp -dsimp only[go_sem,dI hlt,V,M,O,G,J,cC,cFd,cD]|apply Br.mk<;>intro h<;>try simp -dsimp only[h]|refine aA.c (by first|exact Z) ?_|refine aC ?_|refine aC9 ?_|fail
    all_goals first|omega|(exact nx (i+1,()) trivial (h2:=by simp[Vs.LeL,Vs.look,aB,aQ,aK,Vs.hset,aL,Dj]))
  .have hge:i=s.length:=by
    have:¬i<s.length:=Dq;omega
   subst hge;simp -dsimp only[go_sem,cC,cFd,cD];have U:(E cD ((List.range s.length).map (gF l s))).take s.length=E cD ((List.range s.length).map (gF l s)):=Ah (by rw[aH];simp)
   first|exact⟨⟨_,_,rfl,rfl⟩,λh=>h rfl⟩|(rw[U];exact⟨⟨_,_,rfl,rfl⟩,λh=>h rfl⟩)|(simp[U];done)
end
section
variable [Vs.Envs]
attribute [local irreducible] Vs.Fn dJ bB dK dL l03 chB rk cd3 chI stp bD
def kM (fr to:Int) (l:List (List Int)):Int:=l.foldl (λa c=>IntKind.i64.wrap (a+(dX fr to c).1)) 0
def aAN (fr to:Int) (l:List (List Int)):Bool:=l.all λc=>(dX fr to c).2
theorem aJg {fr to:Int}{l:List (List Int)}{i:Nat} (h:i<l.length):kM fr to (l.take (i+1))=IntKind.i64.wrap (kM fr to (l.take i)+(dX fr to l[i]).1):=by
 unfold kM;rw[bM h,List.foldl_append];rfl
def aC7 (fr to:Int) (l:List (List Int)):AV:=if aAN fr to l then .sl 1 (E cI [kM fr to l]) else .v (.slice none 0 0)
attribute [local irreducible] kM dX
attribute [local go_sem] cFd aH Af Ag Ao Aq Ae Aj Ad Al Ac Ai Ap Ar in
theorem aKo (l:List (List Int)) (fr to:Int) (ho:∀c,c∈l->okP fr to c) (hl:l.length<=1048576):Fz F.vY [.sl 2 [[.v (.int .i64 fr),.v (.int .i64 to)]],.sl 1 (E cC l)] (.tup [aC7 fr to l,.v (.bool (aAN fr to l))]):=by
 refine fn0 Cd.i_sumsOf_k λX=>?_
 repeat' first|simp -dsimp only[go_sem,cC]|apply Br.mk<;>intro h<;>try simp -dsimp only[h]|refine aC ?_|refine aC9 ?_|fail
 refine aP.at dM (X:={zz:Nat×(Unit) // zz.1<=1∧(zz.1=1->aAN fr to l=true)}) (λzz=>[(6,.loc (.t 6 0) 0 zz.1.1),(17,.v (.int .i64 zz.1.1))]) (λzz=>[(.t 6 0,.arr 1 (E cI ([kM fr to l].take zz.1.1)) false)]) (λzz=>1-zz.1.1) ⟨(0,()),by omega,by intro h;cases h⟩ ?_ ?_
 .simp[Vs.LeL,Vs.look,aB,aQ,aK,Vs.hset,aL,Vs.E]
 .rintro⟨⟨i,_⟩,hi,hg⟩;dsimp only at hi hg;simp -dsimp only[go_sem,cC];refine Br.mk (λhc=>?_) λhc=>?_
  .have hlt:i<1:=Dq;have hw:=aJ hlt (by omega);obtain rfl:i=0:=by omega
   repeat' first|simp -dsimp only[go_sem,cC]|apply Br.mk<;>intro h<;>try simp -dsimp only[h]|refine aC ?_|refine aC9 ?_|fail
   refine aP.at dM (X:={zz:Nat×(Unit) // zz.1<=l.length∧(l.take zz.1).all (λc=>(dX fr to c).2)=true}) (λzz=>[(9,.v (.int .i64 (kM fr to (l.take zz.1.1)))),(23,.v (.int .i64 zz.1.1))]) (λzz=>[]) (λzz=>l.length-zz.1.1) ⟨(0,()),by omega,by simp⟩ ?_ ?_
   .simp[Vs.LeL,Vs.look,aB,aQ,aK,Vs.hset,aL,kM]
   .rintro⟨⟨i,_⟩,hi,hg⟩;dsimp only at hi hg;simp -dsimp only[go_sem,cC];refine Br.mk (λhc=>?_) λhc=>?_
    .have hlt:i<l.length:=Dq;have hw:=aJ hlt hl;have hm:(E cC l).getD i []=[.sl 1 (E cI l[i])]:=aW hlt;have NI:=aBP (ho _ (Aa hlt));have hss:=aJg (fr:=fr) (to:=to) hlt;cases hb:(dX fr to l[i]).2
     .rw[hb] at NI;have hna:aAN fr to l=false:=iK (p:=λc=>(dX fr to c).2) hlt hb;have hv:aC7 fr to l=.v (.slice none 0 0):=by simp[aC7,hna]
      repeat' first|simp -dsimp only[go_sem,hm,hw,cC]|apply Br.mk<;>intro h<;>try simp -dsimp only[h]|refine aA.c (by first|exact NI) ?_|refine aC ?_|refine aC9 ?_|fail
      all_goals first|omega|(rw[hv,hna];exact⟨_,_,rfl,rfl⟩)|(simp[hv,hna];done)
     .rw[hb] at NI;simp -dsimp only[go_sem,hm,hw,cC]
      repeat' first|simp -dsimp only[go_sem,hm,hw,←hss,cC]|apply Br.mk<;>intro h<;>try simp -dsimp only[h]|refine aA.c (by first|exact NI) ?_|refine aC ?_|refine aC9 ?_|fail
      all_goals first|omega|(exact nx (i+1,()) (bH (p:=λc=>(dX fr to c).2) hlt hg hb) (h2:=by simp[Vs.LeL,Vs.look,aB,aQ,aK,Vs.hset,aL,hss]))
    .have hge:i=l.length:=by
      have:¬i<l.length:=Dq;omega
     subst hge;simp -dsimp only[go_sem,cC];have hall:aAN fr to l=true:=by simpa[aAN] using hg
     have e01:IntKind.i64.wrap 1=1:=rfl;have hfull:l.take l.length=l:=Ah (Au _);refine⟨⟨by decide,by decide,?_⟩,λh=>absurd rfl h⟩;exact⟨⟨(1,()),⟨by omega,λ_=>hall⟩⟩,by simp[Vs.LeL,Vs.look,aB,aQ,aK,Vs.hset,aL,hfull,e01,Vs.E,cI],by simp only;omega⟩
  .have hge:i=1:=by
    have:¬i<1:=Dq;omega
   subst hge;simp -dsimp only[go_sem,cC];have hall:=hg rfl;rw[hall,show aC7 fr to l=.sl 1 (E cI [kM fr to l]) by simp[aC7,hall]];exact⟨⟨_,_,rfl,rfl⟩,λh=>h rfl⟩
end
section
variable [Vs.Envs]
attribute [local irreducible] Vs.Fn kM dX gF bU dJ bB dK dL l03 chB rk cd3 chI stp bD
theorem aJU (a:List Int) (fr to:Int) (G:okF fr to a) (hh:cK (fH fr to a)=true):Fz F.qZ [.agg (cC a),.agg (cFd fr to)] (.v (.string (txt (fH fr to a)))):=by
 refine fn0 Cd.i_fieldText_k λX=>?_
 repeat' first|simp -dsimp only[go_sem,cC,cFd,fH_E,Af,Ag,Ao,Aq,Ae,Aj,Ad,Al,Ac,Ai,Ap,Ar]|apply Br.mk<;>intro h<;>try simp -dsimp only[h]|refine RgK.mk rfl ?_|refine aA.c (by first|exact textOf _ (aBq G) hh) ?_|refine And.intro (by first|rfl|omega|decide|exact bZ G|exact bZ hb|exact⟨rfl,bZ G⟩|exact⟨rfl,bZ hb⟩|exact bG G|exact bG hb|exact⟨rfl,bG G⟩|exact⟨rfl,bG hb⟩|(refine⟨?_,?_⟩<;>(first|rfl|omega|decide|exact bZ G|exact bZ hb|exact⟨rfl,bZ G⟩|exact⟨rfl,bZ hb⟩|exact bG G|exact bG hb|exact⟨rfl,bG G⟩|exact⟨rfl,bG hb⟩))|(refine⟨?_,?_,?_⟩<;>(first|rfl|omega|decide|exact bZ G|exact bZ hb|exact⟨rfl,bZ G⟩|exact⟨rfl,bZ hb⟩|exact bG G|exact bG hb|exact⟨rfl,bG G⟩|exact⟨rfl,bG hb⟩))|(refine⟨?_,?_,?_,?_⟩<;>(first|rfl|omega|decide|exact bZ G|exact bZ hb|exact⟨rfl,bZ G⟩|exact⟨rfl,bZ hb⟩|exact bG G|exact bG hb|exact⟨rfl,bG G⟩|exact⟨rfl,bG hb⟩))) ?_|fail
 all_goals(simp_all)
theorem aGv {fr to:Int}{l:List (List Int)}{g:List (List Int)} (h:g∈aDL fr to l):0<g.length∧g.length<=l.length∧∀c,c∈g->c∈l:=by
 unfold aDL at h;obtain⟨i,hi,rfl⟩:=Bq.1 h;have hi:=Co.1 hi;have hin:=wJ (fr:=fr) (to:=to) (l:=l) l.length;have G:=aBo (fr:=fr) (to:=to) (l:=l) l.length;generalize bU fr to l l.length=s at *
 have M:=hin _ (Aa hi);have e:s.getD i 0=s[i]:=by simp[List.getD,hi]
 unfold gF;rw[e];refine⟨?_,?_,λc I=>CE (CZ I)⟩
 .rw[Cg,BM];split
  .rename_i F;have J:=hin _ (Aa F);have H:s[i]<s[i+1]:=Dg.1 G i (i+1) hi F (by omega);rw[show s.getD (i+1) 0=s[i+1] by simp[List.getD,F]];omega
  .omega
 .rw[Cg,BM];omega
theorem aGw (fr to:Int) (l:List (List Int)):(aDL fr to l).length<=l.length:=by
 unfold aDL;rw[Bh,List.length_range];exact kL fr to l l.length
def cTt (t:ByteArray×Int):List AV:=[.v (.string t.1),.v (.int .i64 t.2)]
def qI (fr to sf st:Int) (l:List (List Int)):List (ByteArray×Int):=(aDL fr to l).map λg=>(txt (fH fr to (g.getD 0 [])),kM sf st g)
def o7 (fr to sf st:Int) (l:List (List Int)):Bool:=aAN sf st l&&bX fr to l
def xV (fr to sf st:Int) (l:List (List Int)):AV:=if o7 fr to sf st l then .sl 2 (E cTt (qI fr to sf st l)) else .v (.slice none 0 0)
attribute [local irreducible] aDL
attribute [local go_sem] aH Af Ag Ao Aq Ae Aj Ad Al Ac Ai Ap Ar cD Av Vs.Name.t.injEq Am Ak AR BQ in
theorem aKl (l:List (List Int)) (fr to sf st:Int) (ho:∀c,c∈l->okF fr to c) (hp:∀c,c∈l->okP sf st c) (hl:l.length<=1048576):Fz F.tO [.sl 1 (E cC l),.agg (cFd fr to),.agg (cFd sf st)] (.tup [xV fr to sf st l,.v (.int .i64 (if o7 fr to sf st l then 0 else 8))]):=by
 have SO:=aKo l sf st hp hl;have HF:=sI l fr to ho hl;have GR:=groups l fr to ho hl;cases hN:aAN sf st l
 .rw[hN] at SO;have hb:o7 fr to sf st l=false:=by simp[o7,hN]
  rw[show xV fr to sf st l=.v (.slice none 0 0) by simp[xV,hb],hb];refine fn0 Cd.i_totalsOf_k λX=>?_
  repeat' first|simp -dsimp only[go_sem,cC,cFd]|apply Br.mk<;>intro h<;>try simp -dsimp only[h]|refine aA.c (by first|exact SO|exact HF) ?_|refine aC ?_|refine aC9 ?_|fail
  all_goals first|exact⟨_,_,rfl,rfl⟩|simp
 rw[hN] at SO;cases hC:bX fr to l
 .rw[hC] at HF;have hb:o7 fr to sf st l=false:=by simp[o7,hC]
  rw[show xV fr to sf st l=.v (.slice none 0 0) by simp[xV,hb],hb];refine fn0 Cd.i_totalsOf_k λX=>?_
  repeat' first|simp -dsimp only[go_sem,cC,cFd]|apply Br.mk<;>intro h<;>try simp -dsimp only[h]|refine aA.c (by first|exact SO|exact HF) ?_|refine aC ?_|refine aC9 ?_|fail
  all_goals first|exact⟨_,_,rfl,rfl⟩|simp
 rw[hC] at HF;have hb:o7 fr to sf st l=true:=by simp[o7,hN,hC]
 rw[show xV fr to sf st l=.sl 2 (E cTt (qI fr to sf st l)) by simp[xV,hb],hb];have hgm:∀g,g∈aDL fr to l->0<g.length∧g.length<=l.length∧∀c,c∈g->c∈l:=λg hg=>aGv hg;have hGl:=aGw fr to l;unfold qI;generalize aDL fr to l=G at *
 refine fn0 Cd.i_totalsOf_k λX=>?_
 repeat' first|simp -dsimp only[go_sem,cC,cFd]|apply Br.mk<;>intro h<;>try simp -dsimp only[h]|refine aA.c (by first|exact SO|exact HF|exact GR) ?_|refine aC ?_|refine aC9 ?_|fail
 refine aP.at dM (X:={zz:Nat×(Unit) // zz.1<=G.length∧True}) (λzz=>[(10,.loc (.t 10 0) 0 zz.1.1),(35,.v (.int .i64 zz.1.1))]) (λzz=>[(.t 10 0,.arr 2 (E cTt ((G.take zz.1.1).map λg=>(txt (fH fr to (g.getD 0 [])),kM sf st g))) false)]) (λzz=>G.length-zz.1.1) ⟨(0,()),by omega,trivial⟩ ?_ ?_
 .simp[Vs.LeL,Vs.look,aB,aQ,aK,Vs.hset,aL,Vs.E]
 .rintro⟨⟨i,_⟩,hi,hg⟩;dsimp only at hi hg;simp -dsimp only[go_sem,cC,cFd];refine Br.mk (λhc=>?_) λhc=>?_
  .have hlt:i<G.length:=Dq;have hw:=aJ hlt (by omega);obtain⟨g0,g1,g2⟩:=hgm _ (Aa hlt);have hgi:(E cD G).getD i []=[.sl 1 (E cC G[i])]:=aW hlt;have SG:=aKo G[i] sf st (λc hc=>hp c (g2 c hc)) (by omega);have hNg:aAN sf st G[i]=true:=Az.2 λc hc=>Az.1 hN c (g2 c hc);rw[show aC7 sf st G[i]=.sl 1 (E cI [kM sf st G[i]]) by simp[aC7,hNg],hNg] at SG;have hm0:G[i].getD 0 []∈G[i]:=by rw[show G[i].getD 0 []=G[i][0] by simp[List.getD,g0]];exact Aa g0
   have hg0:(E cC G[i]).getD 0 []=[.sl 1 (E cI (G[i].getD 0 []))]:=by rw[aW g0];simp[cC,List.getD,g0]
   have FT:=aJU (G[i].getD 0 []) fr to (ho _ (g2 _ hm0)) (Az.1 hC _ (g2 _ hm0));have hs0:(E cI [kM sf st G[i]]).getD 0 []=[.v (.int .i64 (kM sf st G[i]))]:=rfl
   have hap:E cTt ((G.take i).map λg=>(txt (fH fr to (g.getD 0 [])),kM sf st g))++[[.v (.string (txt (fH fr to (G[i].getD 0 [])))),.v (.int .i64 (kM sf st G[i]))]]=E cTt ((G.take (i+1)).map λg=>(txt (fH fr to (g.getD 0 [])),kM sf st g)):=by
    rw[bM hlt,Bu,aV];rfl
   have hal:(E cTt ((G.take i).map λg=>(txt (fH fr to (g.getD 0 [])),kM sf st g))).length=i:=by rw[aH];simp;omega
   simp -dsimp only[go_sem,hgi,hg0,hs0,hw,hal,cC,cFd]
   repeat' first|simp -dsimp only[go_sem,hgi,hg0,hs0,hw,hap,hal,cC,cFd]|apply Br.mk<;>intro h<;>try simp -dsimp only[h]|refine aA.c (by first|exact SG|exact FT) ?_|refine aC ?_|refine aC9 ?_|fail
   all_goals first|omega|(exact nx (i+1,()) trivial (h2:=by simp[Vs.LeL,Vs.look,aB,aQ,aK,Vs.hset,aL,hap]))
  .have hge:i=G.length:=by
    have:¬i<G.length:=Dq;omega
   subst hge;simp -dsimp only[go_sem,cC,cFd]
   have htk:(E cTt ((G.take G.length).map λg=>(txt (fH fr to (g.getD 0 [])),kM sf st g))).take G.length=E cTt (G.map λg=>(txt (fH fr to (g.getD 0 [])),kM sf st g)):=by
    rw[Ah (Au G.length)];exact Ah (by rw[aH];simp)
   first|exact⟨⟨_,_,rfl,rfl⟩,λh=>h rfl⟩|(rw[htk];exact⟨⟨_,_,rfl,rfl⟩,λh=>h rfl⟩)|(simp[htk];done)
end
section
variable [Vs.Envs]
attribute [local irreducible] Vs.Fn dJ bB dK dL l03 chB rk cd3 chI stp bD
theorem aOT (w:Nat) (H:w<=1000):Vs.Fn Tryz.prog F.aAl [] [.v (.int .i64 w)] (.agg [.loc (.b 0) 0 w]) [some (.arr 1 (List.replicate w [.v (.int .i64 0)]) false)]:=by
 have G:((w:Int)).toNat=w:=by omega
 refine fn1 Cd.i_blank_k [.t 4 0] [.arr 1 (List.replicate w [.v (.int .i64 0)]) false] λX=>?_;unfold Cd.aAl
 repeat' first|simp -dsimp only[go_sem,aH,Ad,Al,Ac,Ai,Ap,List.length_replicate,BF,BG,aU,bF,aT,Ar,Be,Aj,Ae,G]|apply Br.mk<;>intro h<;>try simp -dsimp only[h]|refine aC ?_|refine aC9 ?_|fail
 all_goals first|exact⟨_,_,rfl,rfl⟩
def bcd (s:ByteArray):List Int:=s.data.toList.map λb=>cd3 (b.toNat:Int)
def qR (s:ByteArray) (w i:Nat):List Int:=(bcd s).take i++List.replicate (w-i) 0
def pun (s:ByteArray) (w:Nat):List Int:=bcd s++List.replicate (w-s.size) 0
theorem aC3 (s:ByteArray):(bcd s).length=s.size:=by simp[bcd]
theorem aHm (s:ByteArray) (w:Nat):E cI (qR s w 0)=List.replicate w [.v (.int .i64 0)]:=by simp[qR,E,cI]
theorem aDk (s:ByteArray) (w:Nat):qR s w s.size=pun s w:=by
 unfold qR pun;rw[Ah (by rw[aC3];exact Au _)]
theorem aAd {s:ByteArray}{w i:Nat} (h:i<=s.size) (F:s.size<=w):(qR s w i).length=w:=by
 have:=aC3 s;simp[qR];omega
theorem aJw {s:ByteArray}{w i:Nat} (h:i<s.size) (M:s.size<=w):(E cI (qR s w i)).set i [.v (.int .i64 (cd3 ((s.data.toList.getD i 0).toNat:Int)))]=E cI (qR s w (i+1)):=by
 have J:=aC3 s;have F:i<(bcd s).length:=by omega
 have hA:((bcd s).take i).length=i:=by simp;omega
 have I:(bcd s)[i]=cd3 ((s.data.toList.getD i 0).toNat:Int):=by
  have G:i<s.data.toList.length:=by simpa[bcd] using F
  have H:s.data.toList.getD i 0=s.data.toList[i]:=by rw[A8,Ba G];rfl
  rw[H];simp[bcd]
 have e:(qR s w i).set i (cd3 ((s.data.toList.getD i 0).toNat:Int))=qR s w (i+1):=by
  unfold qR;rw[show w-i=(w-(i+1))+1 by omega,Af,List.set_append,AC (by omega),hA,Cw,Ad,bM F,I];simp
 rw[←e];simp[E,Dc,cI]
attribute [local irreducible] qR
attribute [local go_sem] aH Ad Al Ac Ai Ap List.length_replicate BF BG aU bF aT Ar Be Aj Ae in
theorem aJv (s:ByteArray) (w:Nat) (hw:w<=1000) (hs:s.size<=w):Fz F.qY [.v (.string s),.v (.int .i64 w)] (.agg [.sl 1 (E cI (pun s w))]):=by
 have BL:=aOT w hw;refine fn0 Cd.i_punchText_k λX=>?_;simp -dsimp only[go_sem];refine aA.own BL rfl ?_
 repeat' first|simp -dsimp only[go_sem]|apply Br.mk<;>intro h<;>try simp -dsimp only[h]|refine aC ?_|refine aC9 ?_|fail
 refine aP.at dM (X:={zz:Nat×(Unit) // zz.1<=s.size∧True}) (λzz=>[(6,.v (.int .i64 zz.1.1))]) (λzz=>[(.t 8 0,.arr 1 (E cI (qR s w zz.1.1)) false)]) (λzz=>s.size-zz.1.1) ⟨(0,()),by omega,trivial⟩ ?_ ?_
 .simp[Vs.LeL,Vs.look,aB,aQ,aK,Vs.hset,aL,aHm]
 .rintro⟨⟨i,_⟩,hi,hg⟩;dsimp only at hi hg;simp -dsimp only[go_sem];refine Br.mk (λhc=>?_) λhc=>?_
  .have hlt:i<s.size:=Dq;have hw:=aJ hlt (by omega);have hps:=aJw (w:=w) hlt hs;have hpl:(E cI (qR s w i)).length=w:=by rw[aH];exact aAd (by omega) hs
   have CO:=codeOf ((s.data.toList.getD i 0).toNat:Int)
   have hrow:∃y,(E cI (qR s w i)).getD i []=[y]:=by
    have hil:i<(qR s w i).length:=by rw[aAd (by omega) hs];omega
    exact⟨.v (.int .i64 (qR s w i)[i]),by rw[aW hil];rfl⟩
   obtain⟨y,hy⟩:=hrow
   repeat' first|simp -dsimp only[go_sem,hw,hps,hpl,hy]|apply Br.mk<;>intro h<;>try simp -dsimp only[h]|refine aA.c (by first|exact CO) ?_|refine aC ?_|refine aC9 ?_|fail
   all_goals first|omega|(exact nx (i+1,()) trivial (h2:=by simp[Vs.LeL,Vs.look,aB,aQ,aK,Vs.hset,aL,hps]))
  .have hge:i=s.size:=by
    have:¬i<s.size:=Dq;omega
   subst hge;simp -dsimp only[go_sem];have hpf:=aDk s w;have hpl:(E cI (pun s w)).length=w:=by rw[aH,←hpf];exact aAd (Au _) hs
   have htk:(E cI (pun s w)).take w=E cI (pun s w):=Ah (by omega)
   first|(rw[hpf,htk];exact⟨⟨_,_,rfl,rfl⟩,λh=>h rfl⟩)|(simp[hpf,htk];done)
end
section
variable [Vs.Envs]
attribute [local irreducible] Vs.Fn pun dJ bB dK dL l03 chB rk cd3 chI stp bD
theorem aMM {s:ByteArray}{w:Nat} (h:s.size<=w):(pun s w).length=w:=by rw[←aDk];exact aAd (Au _) h
def cmT (fr to:Int) (c:List Int) (s:ByteArray):Int:=jM (fH fr to c) (pun s (to.toNat-fr.toNat))
theorem aGP (a:List Int) (fr to:Int) (s:ByteArray) (G:okF fr to a) (H:s.size<=to.toNat-fr.toNat):Fz F.kH [.agg (cC a),.agg (cFd fr to),.v (.string s)] (.v (.int .i64 (cmT fr to a s))):=by
 have O:=mE G;have M:=G;obtain⟨V,Y,h2,J⟩:=M;have I:=aJv s (to.toNat-fr.toNat) (by omega) H;have U:IntKind.i64.wrap (to-fr)=((to.toNat-fr.toNat:Nat):Int):=by rw[aI (by omega) (by omega)];omega
 have CH:=aBw (fH fr to a) (pun s (to.toNat-fr.toNat)) (aBq G) (by rw[O,aMM H]);rw[show jM (fH fr to a) (pun s (to.toNat-fr.toNat))=cmT fr to a s from rfl] at CH;refine fn0 Cd.i_compareText_k λX=>?_
 repeat' first|simp -dsimp only[go_sem,cC,cFd,fH_E,Ad,Al,Ac,Ai,U]|apply Br.mk<;>intro h<;>try simp -dsimp only[h]|refine RgK.mk rfl ?_|refine aA.c (by first|exact I|exact CH) ?_|refine And.intro (by first|rfl|omega|decide|exact bZ G|exact⟨rfl,bZ G⟩|exact bG G|exact⟨rfl,bG G⟩|(refine⟨?_,?_⟩<;>(first|rfl|omega|decide|exact bZ G|exact⟨rfl,bZ G⟩|exact bG G|exact⟨rfl,bG G⟩))|(refine⟨?_,?_,?_⟩<;>(first|rfl|omega|decide|exact bZ G|exact⟨rfl,bZ G⟩|exact bG G|exact⟨rfl,bG G⟩))|(refine⟨?_,?_,?_,?_⟩<;>(first|rfl|omega|decide|exact bZ G|exact⟨rfl,bZ G⟩|exact bG G|exact⟨rfl,bG G⟩))) ?_|fail
 all_goals first|exact⟨_,_,rfl,rfl⟩|simp
end
section
variable [Vs.Envs]
attribute [local irreducible] Vs.Fn pun cmT flt zR dJ bB dK dL l03 chB rk cd3 chI stp bD
def kQ (fr to:Int) (s:ByteArray) (c:List Int):Bool:=decide (cmT fr to c s<0)||decide (cmT fr to c s>0)
theorem sel1 (x:List Int) (fr to:Int) (s:ByteArray) (I:okF fr to x) (H:s.size<=to.toNat-fr.toNat):Fz F.fB [.agg (cC x),.ro (cFd fr to),.ro [.v (.string s)],.ro [.v (.string s)]] (.v (.bool (kQ fr to s x))):=by
 have G:=aGP x fr to s I H;unfold kQ;generalize cmT fr to x s=v at *
 refine fn0 Cd.i_SelectBetween_1_k λX=>?_
 repeat' first|simp -dsimp only[go_sem,cC,cFd,Af,Ag,Ao,Aq,Ae,Aj,Ad,Al,Ac,Ai,Ap]|apply Br.mk<;>intro h<;>try simp -dsimp only[h]|refine aA.c (by first|exact G) ?_|refine aC ?_|refine aC9 ?_|fail
 all_goals first|exact⟨_,_,rfl,rfl⟩|(rw[h,Di];exact⟨_,_,rfl,rfl⟩)
def oC (fr to:Int) (s:ByteArray) (l:List (List Int)):Int:=aAt fr to [s,s] [l]
def rR (fr to:Int) (s:ByteArray) (l:List (List Int)):AV:=if oC fr to s l=0 then .sl 1 (E cC (flt (kQ fr to s) l)) else .v (.slice none 0 0)
theorem aIb {fr to:Int}{s:ByteArray}{l:List (List Int)} (h:oC fr to s l=0):bC l=true∧dW fr to (bK l)=true∧((s.size:Int)==W (to-fr))=true∧bB s=true∧bX fr to l=true:=by
 unfold oC aAt at h;cases h1:bC l<;>cases h2:dW fr to (bK l)<;>cases h3:((s.size:Int)==W (to-fr))<;>cases h4:bB s<;>cases h5:bX fr to l<;>simp[h1,h2,h3,h4,h5] at h⊢
attribute [local go_sem] Af Ag Ao Aq Ae Aj Ad Al Ac Ai Ap in
theorem aEa (l:List (List Int)) (fr to:Int) (s:ByteArray) (J:bO l) (hz:s.size<=1048576):Fz F.jT [.sl 1 (E cC l),.agg (cFd fr to),.v (.string s),.v (.string s)] (.tup [rR fr to s l,.v (.int .i64 (oC fr to s l))]):=by
 have H:=aLY fr to [l] ⟨by simp,λd I=>by simp at I;subst I;exact J⟩ [s,s] (by simp) (λt ht=>by simp at ht;subst ht;exact hz);rw[show aAt fr to [s,s] [l]=oC fr to s l from rfl] at H;by_cases G:oC fr to s l=0
 .obtain⟨I,hf,V,hb,Z⟩:=aIb G;have ho:=eG I hf;rw[show rR fr to s l=.sl 1 (E cC (flt (kQ fr to s) l)) by simp[rR,G],G];rw[G] at H
  have U:∀x,x∈l->s.size<=to.toNat-fr.toNat:=λx M=>by
   have Y:((s.size:Int))=W (to-fr):=by simpa using V
   obtain⟨f0,f1,f2,f3⟩:=ho x M;rw[show W (to-fr)=to-fr from aI (by omega) (by omega)] at Y;omega
  have O:=delF (kQ fr to s) F.fB [.ro (cFd fr to),.ro [.v (.string s)],.ro [.v (.string s)]] rfl l J.1 (λx M=>sel1 x fr to s (ho x M) (U x M));refine fn0 Cd.i_SelectBetween_k λX=>?_
  repeat' first|simp -dsimp only[go_sem,cC,cFd]|apply Br.mk<;>intro h<;>try simp -dsimp only[h]|refine aA.c (by first|exact H) ?_|refine aC ?_|refine aC9 ?_|fail
  refine aA.own (aBa l J.2 J.1) rfl ?_;simp -dsimp only[go_sem,cC,cFd,BF,BG,aU,bF,aT,Ar,Be,Av,Am,Ak,AR,BQ,Vs.Name.t.injEq];refine⟨rfl,aA.borL O rfl ?_⟩;simp -dsimp only[go_sem,cC,cFd,BF,BG,aU,bF,aT,Ar,Be,Av,Am,Ak,AR,BQ,Vs.Name.t.injEq];have hr:=aFV (flt (kQ fr to s) l) (l.length-(flt (kQ fr to s) l).length);have ha:(flt (kQ fr to s) l).length<=l.length:=aAq ..
  simp -dsimp only[go_sem,AJ,Ce,aH,AX,hr]
  first|exact⟨_,_,rfl,rfl⟩
 .have e0:(oC fr to s l != 0)=true:=by simp[G]
  rw[show rR fr to s l=.v (.slice none 0 0) by simp[rR,G]];generalize oC fr to s l=c at *
  refine fn0 Cd.i_SelectBetween_k λX=>?_
  repeat' first|simp -dsimp only[go_sem,cC,cFd,e0]|apply Br.mk<;>intro h<;>try simp -dsimp only[h]|refine aA.c (by first|exact H) ?_|refine aC ?_|refine aC9 ?_|fail
  all_goals first|exact⟨_,_,rfl,rfl⟩
theorem aBU (l:List (List Int)) (fr to:Int) (s:ByteArray) (I:bO l) (J:s.size<=1048576):Fz F.mU [.sl 1 (E cC l),.agg (cFd fr to),.v (.string s)] (.tup [rR fr to s l,.v (.int .i64 (oC fr to s l))]):=by
 have H:=aEa l fr to s I J;have G:rR fr to s l=.sl 1 (E cC (flt (kQ fr to s) l))∨rR fr to s l=.v (.slice none 0 0):=by unfold rR;split<;>simp
 generalize oC fr to s l=c at *
 rcases G with G|G<;>rw[G] at H⊢
 all_goals
  refine fn0 Cd.i_SelectEqual_k λX=>?_
  repeat' first|simp -dsimp only[go_sem,cC,cFd,Af,Ag,Ao,Aq,Ae,Aj,Ad,Al,Ac,Ai,Ap]|apply Br.mk<;>intro h<;>try simp -dsimp only[h]|refine aA.c (by first|exact H) ?_|refine aC ?_|refine aC9 ?_|fail
  all_goals first|exact⟨_,_,rfl,rfl⟩
end
section
variable [Vs.Envs]
attribute [local irreducible] Vs.Fn pun cmT flt zR dJ bB dK dL l03 chB rk cd3 chI stp bD
end
section
variable [Vs.Envs]
attribute [local irreducible] Vs.Fn pun cmT zR dJ bB dK dL l03 chB rk cd3 chI stp bD
theorem aHo {l:List (List Int)}{fr to:Int} (H:bC l=true) (G:l9 fr to (bK l)=true):∀c,c∈l->okP fr to c:=by
 intro c I;unfold l9 at G;rw[Aw] at G;obtain⟨M,O,h2,U⟩:=eG H G.1 c I;have J:=G.2;rw[show W (to-fr)=to-fr from aI (by omega) (by omega)] at J;simp only[bC,Aw,Az,Bb] at H;obtain⟨F,V⟩:=H.1 c I;simp only[fC,inB,Aw,Az,Bb] at F;exact⟨M,O,h2,by simpa using J,U,λy Y=>F.1 y Y⟩
theorem aFN {fr to:Int}{l:List (List Int)} (H:∀c,c∈l->okF fr to c) (G:l.length<=40):∀c,c∈jH fr to l->c∈l:=by
 intro c F;obtain⟨i,hi,rfl⟩:=Bq.1 F;exact oJ (aFh H G i hi)
theorem aFO (fr to:Int) (l:List (List Int)):(jH fr to l).length=l.length:=by unfold jH;rw[Bh,yO]
end
section
variable [Vs.Envs]
attribute [local irreducible] Vs.Fn dJ bB dK dL l03 chB rk cd3 chI stp bD
attribute [local go_sem] cFd aH Af Ag Ao Aq Ae Aj Ad Al Ac Ai Ap in
theorem aFp (l:List (List Int)) (hk:bO l):Fz F.pY [.sl 1 (E cC l)] (.sl 1 (E cC l)):=by
 refine fn0 Cd.s_l02Copy_k λX=>?_
 repeat' first|simp -dsimp only[go_sem,cC]|apply Br.mk<;>intro h<;>try simp -dsimp only[h]|refine aC ?_|refine aC9 ?_|fail
 refine aP.at dM (X:={zz:Nat×(Unit) // zz.1<=l.length∧True}) (λzz=>[(3,.loc (.t 3 0) 0 zz.1.1),(4,.v (.int .i64 zz.1.1))]) (λzz=>[(.t 3 0,.arr 1 (E cC (l.take zz.1.1)) false)]) (λzz=>l.length-zz.1.1) ⟨(0,()),by omega,trivial⟩ ?_ ?_
 .simp[Vs.LeL,Vs.look,aB,aQ,aK,Vs.hset,aL,Vs.E]
 .rintro⟨⟨i,_⟩,hi,hg⟩;dsimp only at hi hg;simp -dsimp only[go_sem,cC];refine Br.mk (λhc=>?_) λhc=>?_
  .have hlt:i<l.length:=Dq;have hw:=aJ hlt (hk.1);have hm:(E cC l).getD i []=[.sl 1 (E cI l[i])]:=aW hlt;have NC:=yT l[i] (hk.2 _ (Aa hlt));have hap:E cC (l.take i)++[[.sl 1 (E cI l[i])]]=E cC (l.take (i+1)):=by rw[bM hlt,aV];rfl
   have hal:(E cC (l.take i)).length=i:=by rw[aH];simp;omega
   have hl:=hk.1
   repeat' first|simp -dsimp only[go_sem,hm,hw,hap,hal,cC]|apply Br.mk<;>intro h<;>try simp -dsimp only[h]|refine aA.c (by first|exact NC) ?_|refine aC ?_|refine aC9 ?_|fail
   all_goals first|omega|(exact nx (i+1,()) trivial (h2:=by simp[Vs.LeL,Vs.look,aB,aQ,aK,Vs.hset,aL,hap]))
  .have hge:i=l.length:=by
    have:¬i<l.length:=Dq;omega
   subst hge;simp -dsimp only[go_sem,cC]
   have htk:(E cC (l.take l.length)).take l.length=E cC l:=by
    rw[Ah (Au l.length)];exact Ah (by rw[aH];exact Au _)
   first|exact⟨⟨_,_,rfl,rfl⟩,λh=>h rfl⟩|(rw[htk];exact⟨⟨_,_,rfl,rfl⟩,λh=>h rfl⟩)|(simp[htk];done)
end
section
variable [Vs.Envs]
attribute [local irreducible] Vs.Fn dJ bB dK dL l03 chB rk cd3 chI stp bD stb qU mgK mgI skp jC stF bL kZ
theorem aEQ {l:List (List Int)}{i:Nat} (h:i<l.length):(E cC l).getD i []=[.sl 1 (E cI (l.getD i []))]:=by rw[aW h];simp[cC,List.getD,h]
theorem aGp {fr to:Int}{l:List (List Int)}{i:Nat} (h:i<l.length):(E cSt (bV fr to l)).getD i []=[.v (.string (txt (fH fr to (l.getD i []))))]:=by
 rw[aW (by simpa[bV] using h)];simp[cSt,bV,List.getD,h]
theorem aCQ {l:List (List Int)}{i:Nat} (h:i<l.length):l.getD i []∈l:=by rw[show l.getD i []=l[i] by simp[List.getD,h]];exact Aa h
theorem aHZ (G:Int->List Int) (p:List Int) (x:Int):E cC (p.map G)++[[.sl 1 (E cI (G x))]]=E cC ((p++[x]).map G):=by rw[Bu,aV];rfl
attribute [local go_sem] cFd cD Af Ag Ao Aq Ae Aj Ad Al Ac Ai Ap aH in
theorem aDD (a b:List (List Int)) (fr to:Int) (ha:bO a) (hb:bO b) (oa:∀c,c∈a->okF fr to c) (ob:∀c,c∈b->okF fr to c) (ca:bX fr to a=true) (cb:bX fr to b=true) (h40:a.length+b.length<=40) :
  Fz F.sQ [.sl 1 (E cC a),.sl 1 (E cC b),.sl 1 (E cSt (bV fr to a)),.sl 1 (E cSt (bV fr to b))] (.sl 1 (E cC ((mgF (cfO fr to (a++b)) a.length b.length).map λi=>(a++b).getD i.toNat []))):=by
 have hkl:=vS fr to a;have hkm:=vS fr to b
 have hcmp:∀i k:Nat,i<a.length->k<b.length->Fz F.fP [.v (.string (txt (fH fr to (b.getD k [])))),.v (.string (txt (fH fr to (a.getD i []))))] (.v (.int .i64 (cfO fr to (a++b) ((a.length+k:Nat):Int) (i:Int)))):=by
  intro i k hi hk
  have e:cfO fr to (a++b) ((a.length+k:Nat):Int) (i:Int)=jM (fH fr to (b.getD k [])) (fH fr to (a.getD i [])):=by
   unfold cfO;rw[BR,BR,aI3 hi,aI2];rfl
  rw[e];have m1:=aCQ hi;have m2:=aCQ hk;exact xE _ _ (aBq (ob _ m2)) ((mE (ob _ m2)).trans (mE (oa _ m1)).symm) (Az.1 cb _ m2) (Az.1 ca _ m1)
 have gA:∀i:Nat,i<a.length->(λi:Int=>(a++b).getD i.toNat []) (i:Int)=a.getD i []:=λi hi=>by show(a++b).getD (i:Int).toNat []=_;rw[BR,aI3 hi]
 have gB:∀j:Nat,(λi:Int=>(a++b).getD i.toNat []) ((a.length+j:Nat):Int)=b.getD j []:=λj=>by show(a++b).getD ((a.length+j:Nat):Int).toNat []=_;rw[BR,aI2]
 have hdr:∀k,k<=b.length->(rng (a.length+k) (b.length-k)).map (λi=>(a++b).getD i.toNat [])=b.drop k:=by
  intro k hk;apply List.ext_getElem
  .simp[aAb]
  .intro j h1 h2;simp only[Bh,aAb] at h1;simp only[rng,DC,List.getElem_range',List.getElem_drop,Nat.one_mul];have g2:=gB (k+j);simp only at g2;rw[show a.length+k+j=a.length+(k+j) by omega,g2];simp[List.getD,(by omega:k+j<b.length)]
 generalize(λi:Int=>(a++b).getD i.toNat [])=G at *
 generalize cfO fr to (a++b)=cf at *
 refine fn0 Cd.s_l09Merge_k λX=>?_
 repeat' first|simp -dsimp only[go_sem,cC,hkl,hkm]|apply Br.mk<;>intro h<;>try simp -dsimp only[h]|refine aC ?_|refine aC9 ?_|fail
 refine aP.at dM (X:={zz:Nat×(Unit) // zz.1<=a.length∧True}) (λzz=>[(9,.loc (.t 9 0) 0 (mgI cf a.length b.length zz.1.1).length),(10,.v (.int .i64 (mgK cf a.length b.length zz.1.1:Nat))),(11,.v (.int .i64 zz.1.1))]) (λzz=>[(.t 9 0,.arr 1 (E cC ((mgI cf a.length b.length zz.1.1).map G)) false)]) (λzz=>a.length-zz.1.1) ⟨(0,()),by omega,trivial⟩ ?_ ?_
 .simp[Vs.LeL,Vs.look,aB,aQ,aK,Vs.hset,aL,Vs.E,mgI,mgK]
 .rintro⟨⟨i,_⟩,hi,hg⟩;dsimp only at hi hg;simp -dsimp only[go_sem,cC,hkl,hkm];refine Br.mk (λhc=>?_) λhc=>?_
  .have hlt:i<a.length:=Dq;have hw:=aJ hlt (by omega);have hki:=xC cf a.length b.length i;have hki1:=xC cf a.length b.length (i+1);have hkg:=aFl cf a.length b.length i;have hli:=aCO cf a.length b.length i;have hli1:=aCO cf a.length b.length (i+1);have hs0:skp cf a.length i (b.length-mgK cf a.length b.length i) (mgK cf a.length b.length i)=mgK cf a.length b.length (i+1):=by rw[mgK]
   have hmI:mgI cf a.length b.length (i+1)=mgI cf a.length b.length i++rng (a.length+mgK cf a.length b.length i) (mgK cf a.length b.length (i+1)-mgK cf a.length b.length i)++[(i:Int)]:=by rw[mgI]
   have hga:=gA i hlt;have xa:=aGp (fr:=fr) (to:=to) hlt;have xc:=aEQ hlt;have hc20:(a.getD i []).length<=20:=(oa _ (aCQ hlt)).2.2.2;have NA:=yT (a.getD i []) (by omega);generalize hK:mgK cf a.length b.length i=k0 at *
   generalize hK1:mgK cf a.length b.length (i+1)=k1 at *
   generalize hO:mgI cf a.length b.length i=o at *
   generalize hO1:mgI cf a.length b.length (i+1)=o1 at *
   simp -dsimp only[go_sem,hw,cC,hkl,hkm];refine aP.at dM (X:={k:Nat // k0<=k∧k<=b.length∧skp cf a.length i (b.length-k) k=k1}) (λk=>[(9,.loc (.t 9 0) 0 (o.length+(k.1-k0))),(10,.v (.int .i64 (k.1:Nat))),(16,.junk)]) (λk=>[(.t 9 0,.arr 1 (E cC ((o++rng (a.length+k0) (k.1-k0)).map G)) false)]) (λk=>b.length-k.1) ⟨k0,Au _,hki,hs0⟩ ?_ ?_
   .simp[Vs.LeL,Vs.look,aB,aQ,aK,Vs.hset,aL,Cw,aKJ]
   .rintro⟨k,hk0,hkb,hks⟩
    try dsimp only at hk0 hkb hks
    by_cases hlk:k<b.length
    .have e1:decide ((k:Int)<(b.length:Int))=true:=by simp;omega
     have w1:IntKind.i64.wrap ((k:Int)+1)=((k+1:Nat):Int):=by rw[aI (by omega) (by omega)];omega
     rw[aKB hlk] at hks;have yb:=aGp (fr:=fr) (to:=to) hlk;have yc:=aEQ hlk;have HC:=hcmp i k hlt hlk;have hgb:=gB k;have hb20:(b.getD k []).length<=20:=(ob _ (aCQ hlk)).2.2.2;have NB:=yT (b.getD k []) (by omega);by_cases hneg:cf ((a.length+k:Nat):Int) (i:Int)<0
     .have e2:decide (cf ((a.length+k:Nat):Int) (i:Int)<0)=true:=A9 hneg;rw[AP hneg] at hks
      have hap:E cC ((o++rng (a.length+k0) (k-k0)).map G)++[[.sl 1 (E cI (b.getD k []))]]=E cC ((o++rng (a.length+k0) (k+1-k0)).map G):=by
       rw[show k+1-k0=(k-k0)+1 by omega,aFW,show a.length+k0+(k-k0)=a.length+k by omega,←Bz,←aHZ,hgb]
      have hal:(E cC ((o++rng (a.length+k0) (k-k0)).map G)).length=o.length+(k-k0):=by rw[aH];simp[aAb]
      have hsum:o.length+(k-k0)+1=o.length+(k+1-k0):=by omega
      repeat' first|simp -dsimp only[go_sem,e1,e2,w1,yb,yc,xa,xc,hap,hal,cC,hkl,hkm]|apply Br.mk<;>intro h<;>try simp -dsimp only[h]|refine aA.c (by first|exact HC|exact NB) ?_|refine aC ?_|refine aC9 ?_|fail
      all_goals first|omega|(refine⟨⟨k+1,by omega,by omega,hks⟩,?_,by simp only;omega⟩;simp[Vs.LeL,Vs.look,aB,aQ,aK,Vs.hset,aL,hsum])
     .have e2:decide (cf ((a.length+k:Nat):Int) (i:Int)<0)=false:=AQ hneg;rw[AC hneg] at hks;subst hks
      have hap:E cC ((o++rng (a.length+k0) (k-k0)).map G)++[[.sl 1 (E cI (a.getD i []))]]=E cC (o1.map G):=by
       rw[hmI,←aHZ,hga]
      have hal:(E cC ((o++rng (a.length+k0) (k-k0)).map G)).length=o.length+(k-k0):=by rw[aH];simp[aAb]
      have hsum:o.length+(k-k0)+1=o1.length:=by omega
      repeat' first|simp -dsimp only[go_sem,e1,e2,w1,yb,yc,xa,xc,hap,hal,hw,hsum,cC,hkl,hkm]|apply Br.mk<;>intro h<;>try simp -dsimp only[h]|refine aA.c (by first|exact HC|exact NA) ?_|refine And.intro ?_ (λh=>absurd rfl h)|refine And.intro ?_ (λh=>absurd rfl h)|refine aC ?_|refine aC9 ?_|fail
      all_goals first|omega|(exact⟨⟨(i+1,()),by omega,trivial⟩,by simp[Vs.LeL,Vs.look,aB,aQ,aK,Vs.hset,aL,hsum,hO1,hK1],by simp only;omega⟩)
    .obtain rfl:k=b.length:=by omega
     have e1:decide ((b.length:Int)<(b.length:Int))=false:=by simp
     rw[aKA (by omega)] at hks;subst hks
     have hap:E cC ((o++rng (a.length+k0) (b.length-k0)).map G)++[[.sl 1 (E cI (a.getD i []))]]=E cC (o1.map G):=by
      rw[hmI,←aHZ,hga]
     have hal:(E cC ((o++rng (a.length+k0) (b.length-k0)).map G)).length=o.length+(b.length-k0):=by rw[aH];simp[aAb]
     have hsum:o.length+(b.length-k0)+1=o1.length:=by omega
     repeat' first|simp -dsimp only[go_sem,e1,xa,xc,hap,hal,hw,hsum,cC,hkl,hkm]|apply Br.mk<;>intro h<;>try simp -dsimp only[h]|refine aA.c (by first|exact NA) ?_|refine And.intro ?_ (λh=>absurd rfl h)|refine And.intro ?_ (λh=>absurd rfl h)|refine aC ?_|refine aC9 ?_|fail
     all_goals first|omega|(exact⟨⟨(i+1,()),by omega,trivial⟩,by simp[Vs.LeL,Vs.look,aB,aQ,aK,Vs.hset,aL,hsum,hO1,hK1],by simp only;omega⟩)
  .have hge:i=a.length:=by
    have:¬i<a.length:=Dq;omega
   subst hge;simp -dsimp only[go_sem,cC,hkl,hkm];have hka:=xC cf a.length b.length a.length;have hli:=aCO cf a.length b.length a.length;have hd2:=hdr _ hka
   have hfin:E cC ((mgI cf a.length b.length a.length).map G)++E cC (b.drop (mgK cf a.length b.length a.length))=E cC ((mgF cf a.length b.length).map G):=by
    rw[←hd2,←aV,←Bu];rfl
   have hfl:=aM0 cf a.length b.length;have hdE:(E cC b).drop (mgK cf a.length b.length a.length)=E cC (b.drop (mgK cf a.length b.length a.length)):=by simp[E,CJ]
   have hdl:(b.drop (mgK cf a.length b.length a.length)).length=b.length-mgK cf a.length b.length a.length:=by simp
   have CP:=aFp (b.drop (mgK cf a.length b.length a.length)) ⟨by omega,λc hc=>by have:=(ob c (CZ hc)).2.2.2;omega⟩;have hal:(E cC ((mgI cf a.length b.length a.length).map G)).length=(mgI cf a.length b.length a.length).length:=by rw[aH];simp
   have hsum:(mgI cf a.length b.length a.length).length+(b.length-mgK cf a.length b.length a.length)=a.length+b.length:=by omega
   have htk:(E cC ((mgF cf a.length b.length).map G)).take (a.length+b.length)=E cC ((mgF cf a.length b.length).map G):=Ah (by rw[aH,Bh];omega);generalize mgF cf a.length b.length=mf at *
   generalize mgK cf a.length b.length a.length=k at *
   generalize mgI cf a.length b.length a.length=o at *
   refine⟨?_,λh=>h rfl⟩
   repeat' first|simp -dsimp only[go_sem,hdE,hdl,hal,hfin,hsum,htk,cC,hkl,hkm]|apply Br.mk<;>intro h<;>try simp -dsimp only[h]|refine aA.c (by first|exact CP) ?_|refine aC ?_|refine aC9 ?_|fail
   all_goals first|omega|exact⟨_,_,rfl,rfl⟩
end
end Go.Proofs.YtklmdppgonhflaaGreatDoor
