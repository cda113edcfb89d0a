/- The sum of a field: the program's way. -/
import Derived.Test.YtmiiohemehacjaaGreatDoorXwSm
import Derived.Test.YtmiiohemehacjaaGreatDoorXwSh
import Derived.Test.YtmiiohemehacjaaGreatDoorXwD
set_option linter.all false
set_option maxHeartbeats 8000000
namespace Go.Proofs.YtmiiohemehacjaaGreatDoor
open Go.Vs
section
variable [Vs.Envs]
attribute [local irreducible] Vs.Fn chOK areCh chTo chAt l03 chB rk cd3 chI stb oV
theorem aDH {fr to:Int}{l:List (List Int)}:∀n,stpTo fr to l n=[]->∀i,i<n->¬cmF fr to (l.getD (i+1) []) (l.getD i [])<0
 |0,_,i,hi=>by omega
 | n+1,h,i,hi=>by
  rw[stpTo] at h;obtain⟨F,h2⟩:=List.append_eq_nil_iff.1 h;by_cases hin:i=n
  .subst hin;intro H;rw[if_pos H] at h2;cases h2
  .exact aDH n F i (by omega)
theorem aLc {fr to:Int}{l:List (List Int)} (h:iE fr to l=true):∀i,i+1<l.length->¬cmF fr to (l.getD (i+1) []) (l.getD i [])<0:=by
 intro i hi
 have F:stp fr to l=[]:=by
  unfold iE at h;have:=beq_iff_eq.1 h;exact List.eq_nil_of_length_eq_zero (by omega)
 exact aDH (l.length-1) F i (by omega)
def skp (cf:Int->Int->Int) (na:Nat) (i:Nat):Nat->Nat->Nat
 |0,k=>k
 |m+1,k=>if cf ((na+k:Nat):Int) (i:Int)<0 then skp cf na i m (k+1) else k
def mgK (cf:Int->Int->Int) (na nb:Nat):Nat->Nat
 |0=>0
 |i+1=>skp cf na i (nb-mgK cf na nb i) (mgK cf na nb i)
def rng (a n:Nat):List Int:=(List.range' a n).map λj:Nat=>(j:Int)
def mgI (cf:Int->Int->Int) (na nb:Nat):Nat->List Int
 |0=>[]
 |i+1=>mgI cf na nb i++rng (na+mgK cf na nb i) (mgK cf na nb (i+1)-mgK cf na nb i)++[(i:Int)]
def mgF (cf:Int->Int->Int) (na nb:Nat):List Int:=mgI cf na nb na++rng (na+mgK cf na nb na) (nb-mgK cf na nb na)
theorem aJ3 (a:Nat):rng a 0=[]:=rfl
theorem aFp (a n:Nat):rng a (n+1)=rng a n++[((a+n:Nat):Int)]:=by
 simp[rng,List.range'_concat]
theorem yL (a n:Nat):(rng a n).length=n:=by simp[rng]
theorem aHQ {a n:Nat}{x:Int} (h:x∈rng a n):∃j,a<=j∧j<a+n∧x=(j:Int):=by
 obtain⟨j,H,rfl⟩:=List.mem_map.1 h;obtain⟨F,h2⟩:=List.mem_range'_1.1 H;exact⟨j,F,h2,rfl⟩
theorem aEA (a m n:Nat):rng a m++rng (a+m) n=rng a (m+n):=by
 simp[rng,←List.map_append,List.range'_append]
theorem aJV {cf:Int->Int->Int}{na i nb k:Nat} (h:k<nb):skp cf na i (nb-k) k=if cf ((na+k:Nat):Int) (i:Int)<0 then skp cf na i (nb-(k+1)) (k+1) else k:=by
 rw[show nb-k=(nb-(k+1))+1 by omega,skp]
theorem aJU {cf:Int->Int->Int}{na i nb k:Nat} (h:¬k<nb):skp cf na i (nb-k) k=k:=by
 rw[show nb-k=0 by omega,skp]
theorem aGL (cf:Int->Int->Int) (na i:Nat):∀m k,k<=skp cf na i m k∧skp cf na i m k<=k+m
 |0,k=>by simp[skp]
 | m+1,k=>by
  rw[skp];split
  .have:=aGL cf na i m (k+1);omega
  .omega
theorem aJW (cf:Int->Int->Int) (na i:Nat):∀m k j,k<=j->j<skp cf na i m k->cf ((na+j:Nat):Int) (i:Int)<0
 |0,k,j,h1,h2=>by rw[skp] at h2;omega
 | m+1,k,j,h1,h2=>by
  rw[skp] at h2;split at h2
  .rename_i F;by_cases H:j=k
   .subst H;exact F
   .exact aJW cf na i m (k+1) j (by omega) h2
  .omega
theorem aJX (cf:Int->Int->Int) (na i:Nat):∀m k,skp cf na i m k<k+m->¬cf ((na+skp cf na i m k:Nat):Int) (i:Int)<0
 |0,k,h=>by rw[skp] at h;omega
 | m+1,k,h=>by
  rw[skp] at h⊢;split at h
  .rename_i F;rw[if_pos F];exact aJX cf na i m (k+1) (by omega)
  .rename_i F;rw[if_neg F];exact F
theorem wE (cf:Int->Int->Int) (na nb:Nat):∀i,mgK cf na nb i<=nb
 |0=>Nat.zero_le _
 | i+1=>by
  have h:=wE cf na nb i;have:=aGL cf na i (nb-mgK cf na nb i) (mgK cf na nb i);rw[mgK];omega
theorem aEG (cf:Int->Int->Int) (na nb i:Nat):mgK cf na nb i<=mgK cf na nb (i+1):=by
 rw[mgK];exact(aGL cf na i _ _).1
theorem aB3 (cf:Int->Int->Int) (na nb:Nat):∀i,(mgI cf na nb i).length=i+mgK cf na nb i
 |0=>rfl
 | i+1=>by
  have:=aB3 cf na nb i;have h2:=aEG cf na nb i;rw[mgI];simp only[List.length_append,List.length_singleton,yL,this];omega
theorem aFz (cf:Int->Int->Int) (na nb:Nat):∀i,(mgI cf na nb i).Perm (rng 0 i++rng na (mgK cf na nb i))
 |0=>by simp[mgI,mgK,rng]
 | i+1=>by
  have F:=aFz cf na nb i;have h2:=aEG cf na nb i;rw[mgI,aFp]
  have e:rng na (mgK cf na nb (i+1))=rng na (mgK cf na nb i)++rng (na+mgK cf na nb i) (mgK cf na nb (i+1)-mgK cf na nb i):=by
   rw[aEA];congr 1;omega
  rw[e];generalize rng (na+mgK cf na nb i) (mgK cf na nb (i+1)-mgK cf na nb i)=r at *
  generalize rng na (mgK cf na nb i)=q at *
  generalize rng 0 i=p at *
  generalize mgI cf na nb i=o at *
  rw[Nat.zero_add]
  calc o++r++[(i:Int)] |>.Perm (p++q++r++[(i:Int)]):=List.Perm.append_right _ (List.Perm.append_right _ F)
   _ |>.Perm (p++((q++r)++[(i:Int)])):=by rw[List.append_assoc,List.append_assoc,List.append_assoc]
   _ |>.Perm (p++([(i:Int)]++(q++r))):=List.Perm.append_left _ List.perm_append_comm
   _ |>.Perm (p++[(i:Int)]++(q++r)):=by rw[List.append_assoc]
theorem aKA (n:Nat):iota n=rng 0 n:=by simp[iota,rng,List.range_eq_range']
theorem aFA (cf:Int->Int->Int) (na nb:Nat):(mgF cf na nb).Perm (iota (na+nb)):=by
 have I:=aFz cf na nb na;have h2:=wE cf na nb na;unfold mgF;rw[aKA]
 have e:rng 0 (na+nb)=rng 0 na++rng na (mgK cf na nb na)++rng (na+mgK cf na nb na) (nb-mgK cf na nb na):=by
  have F:=aEA 0 na (mgK cf na nb na);have H:=aEA 0 (na+mgK cf na nb na) (nb-mgK cf na nb na);rw[Nat.zero_add] at F H;rw[F,H];congr 1;omega
 rw[e];exact List.Perm.append_right _ I
theorem aLX (cf:Int->Int->Int) (na nb:Nat):(mgF cf na nb).length=na+nb:=by rw[(aFA cf na nb).length_eq,sH]
section
variable {cf:Int->Int->Int}{R:Int->Int->Prop}{na nb:Nat} (htr:∀x y z,R x y->R y z->R x z)
 (hlt:∀i j:Nat,i<na->j<nb->cf ((na+j:Nat):Int) (i:Int)<0->R ((na+j:Nat):Int) (i:Int))
 (hge:∀i j:Nat,i<na->j<nb->¬cf ((na+j:Nat):Int) (i:Int)<0->R (i:Int) ((na+j:Nat):Int))
 (hA:∀i j:Nat,i<j->j<na->R (i:Int) (j:Int)) (hB:∀i j:Nat,i<j->j<nb->R ((na+i:Nat):Int) ((na+j:Nat):Int))
include htr hlt hge hA hB
theorem aHX:∀i,i<=na->(mgI cf na nb i).Pairwise R∧(∀x,x∈mgI cf na nb i->∀j:Nat,i<=j->j<na->R x (j:Int))∧(∀x,x∈mgI cf na nb i->∀j:Nat,mgK cf na nb i<=j->j<nb->R x ((na+j:Nat):Int))
 |0,_=>⟨List.Pairwise.nil,λx F=>(by cases F),λx F=>(by cases F)⟩
 | i+1,hi=>by
  obtain⟨h1,h2,h3⟩:=aHX i (by omega);have hk:=aEG cf na nb i;have hg:=wE cf na nb (i+1);have hf:=wE cf na nb i;have Z:∀j,mgK cf na nb i<=j->j<mgK cf na nb (i+1)->cf ((na+j:Nat):Int) (i:Int)<0:=λj a b=>aJW cf na i _ _ j a (by rw[mgK] at b;exact b)
  have hc:mgK cf na nb (i+1)<nb->¬cf ((na+mgK cf na nb (i+1):Nat):Int) (i:Int)<0:=λh=>by
   have:=aJX cf na i (nb-mgK cf na nb i) (mgK cf na nb i);rw[mgK] at h⊢;exact this (by omega)
  rw[mgI];generalize hK:mgK cf na nb i=k at *
  generalize hd:mgK cf na nb (i+1)=k' at *
  have Y:∀x,x∈rng (na+k) (k'-k)->∃j,k<=j∧j<k'∧x=((na+j:Nat):Int):=λx F=>by
   obtain⟨j,a,b,rfl⟩:=aHQ F;exact⟨j-na,by omega,by omega,by congr 1;omega⟩
  have I:∀x,x∈rng (na+k) (k'-k)->R x (i:Int):=λx F=>by
   obtain⟨j,a,b,rfl⟩:=Y x F;exact hlt i j (by omega) (by omega) (Z j a b)
  have H:∀j:Nat,i<j->j<na->R (i:Int) (j:Int):=λj a b=>hA i j a b
  have L:∀j:Nat,k'<=j->j<nb->R (i:Int) ((na+j:Nat):Int):=λj a b=>by
   have h0:=hge i k' (by omega) (by omega) (hc (by omega));by_cases hj:j=k'
   .subst hj;exact h0
   .exact htr _ _ _ h0 (hB k' j (by omega) b)
  have O:∀x,x∈mgI cf na nb i->R x (i:Int):=λx F=>h2 x F i (Nat.le_refl _) (by omega)
  have U:∀x,x∈mgI cf na nb i->∀y,y∈rng (na+k) (k'-k)->R x y:=λx F y J=>by
   obtain⟨j,a,b,rfl⟩:=Y y J;exact h3 x F j a (by omega)
  refine⟨?_,?_,?_⟩
  .rw[List.pairwise_append,List.pairwise_append];refine⟨⟨h1,?_,U⟩,List.pairwise_singleton _ _,λx F y J=>?_⟩
   .unfold rng;rw[List.pairwise_map];refine List.Pairwise.imp_of_mem (R:=λa b=>a<b) ?_ List.pairwise_lt_range';intro a b ha hb he;obtain⟨a1,a2⟩:=List.mem_range'_1.1 ha;obtain⟨b1,b2⟩:=List.mem_range'_1.1 hb;have:=hB (a-na) (b-na) (by omega) (by omega)
    rwa [show na+(a-na)=a by omega,show na+(b-na)=b by omega] at this
   .rw[List.mem_singleton] at J;subst J;rcases List.mem_append.1 F with F|F
    .exact O x F
    .exact I x F
  .intro x F j a b;rcases List.mem_append.1 F with F|F
   .rcases List.mem_append.1 F with F|F
    .exact h2 x F j (by omega) b
    .exact htr _ _ _ (I x F) (H j (by omega) b)
   .rw[List.mem_singleton] at F;subst F;exact H j (by omega) b
  .intro x F j a b;rcases List.mem_append.1 F with F|F
   .rcases List.mem_append.1 F with F|F
    .exact h3 x F j (by omega) b
    .obtain⟨j',a',b',rfl⟩:=Y x F;exact hB j' j (by omega) b
   .rw[List.mem_singleton] at F;subst F;exact L j a b
theorem aLW:(mgF cf na nb).Pairwise R:=by
 obtain⟨F,h2,H⟩:=aHX htr hlt hge hA hB na (Nat.le_refl _);unfold mgF;rw[List.pairwise_append];refine⟨F,?_,λx U y Y=>?_⟩
 .unfold rng;rw[List.pairwise_map];refine List.Pairwise.imp_of_mem (R:=λa b=>a<b) ?_ List.pairwise_lt_range';intro a b I L J;obtain⟨Z,a2⟩:=List.mem_range'_1.1 I;obtain⟨b1,b2⟩:=List.mem_range'_1.1 L;have O:=wE cf na nb na;have:=hB (a-na) (b-na) (by omega) (by omega)
  rwa [show na+(a-na)=a by omega,show na+(b-na)=b by omega] at this
 .obtain⟨j,a,b,rfl⟩:=aHQ Y;have O:=wE cf na nb na;have:=H x U (j-na) (by omega) (by omega)
  rwa [show na+(j-na)=j by omega] at this
end
theorem aKc {R:Nat->Nat->Prop} (htr:∀x y z,R x y->R y z->R x z) {n:Nat} (h:∀i,i+1<n->R i (i+1)):∀i j,i<j->j<n->R i j:=by
 intro i j H F;obtain⟨d,rfl⟩:∃d,j=i+1+d:=⟨j-(i+1),by omega⟩
 induction d with
 |zero=>exact h i F
 |succ d ih=>exact htr _ _ _ (ih (by omega) (by omega)) (h (i+1+d) F)
theorem aIr {a b:List (List Int)}{i:Nat} (h:i<a.length):(a++b).getD i []=a.getD i []:=by simp[List.getD,List.getElem?_append_left h]
theorem aIq {a b:List (List Int)} (j:Nat):(a++b).getD (a.length+j) []=b.getD j []:=by
 simp only[List.getD];rw[List.getElem?_append_right (by omega),Nat.add_sub_cancel_left]
theorem aGT {fr to:Int}{a b:List (List Int)} (F:∀c,c∈a++b->okF fr to c) (hl:a.length+b.length<=40) (Y:iE fr to a=true) (Z:iE fr to b=true) :
  mgF (cfO fr to (a++b)) a.length b.length=oV fr to (a++b):=by
 have I:(a++b).length=a.length+b.length:=by simp
 obtain⟨O,h2⟩:=aCA F (by omega);rw[I] at O;have hin:∀i:Nat,i<a.length+b.length->inO (a++b).length (i:Int):=λi hi=>⟨by omega,by omega⟩
 have H:∀i j:Nat,i<j->j<a.length+b.length->¬cfO fr to (a++b) (j:Int) (i:Int)<0->xM fr to (a++b) (i:Int) (j:Int):=by
  intro i j hd L J;have e:=aCh F (hin i (by omega)) (hin j L);refine⟨⟨hin i (by omega),hin j L⟩,?_⟩;by_cases U:cfO fr to (a++b) (i:Int) (j:Int)=0
  .exact .inr ⟨U,by omega⟩
  .exact .inl (by omega)
 have hA:∀i j:Nat,i<j->j<a.length->xM fr to (a++b) (i:Int) (j:Int):=by
  refine aKc (R:=λi j=>xM fr to (a++b) (i:Int) (j:Int)) (λx y z=>lL F _ _ _) λi hi=>?_;refine H i (i+1) (by omega) (by omega) ?_;have:=aLc Y i hi;unfold cfO;rw[Int.toNat_natCast,Int.toNat_natCast,aIr hi,aIr (by omega)];exact this
 have hB:∀i j:Nat,i<j->j<b.length->xM fr to (a++b) ((a.length+i:Nat):Int) ((a.length+j:Nat):Int):=by
  refine aKc (R:=λi j=>xM fr to (a++b) ((a.length+i:Nat):Int) ((a.length+j:Nat):Int)) (λx y z=>lL F _ _ _) λi hi=>?_;refine H _ _ (by omega) (by omega) ?_;have:=aLc Z i hi;unfold cfO;rw[Int.toNat_natCast,Int.toNat_natCast,aIq,aIq];exact this
 refine aEv (lL F) (aA6 F) ((aFA _ _ _).trans O.symm) (aLW (lL F) (λi j hi L J=>?_) (λi j hi L J=>?_) hA hB) h2
 .exact⟨⟨hin _ (by omega),hin _ (by omega)⟩,.inl J⟩
 .exact H i _ (by omega) (by omega) J
end
section
variable [Vs.Envs]
attribute [local irreducible] Vs.Fn chOK areCh chTo chAt l03 chB rk cd3 chI stp stpTo
def bI (fr to:Int) (l:List (List Int)):Nat->List Int
 |0=>[]
 |i+1=>bI fr to l i++(if i=0∨cmF fr to (l.getD (i-1) []) (l.getD i [])≠0 then[(i:Int)] else[])
theorem sW (fr to:Int) (l:List (List Int)) (i:Nat):bI fr to l (i+1)=bI fr to l i++(if i=0∨cmF fr to (l.getD (i-1) []) (l.getD i [])≠0 then[(i:Int)] else[]):=rfl
theorem wM (fr to:Int) (l:List (List Int)):bI fr to l 0=[]:=rfl
theorem jG (fr to:Int) (l:List (List Int)):∀i,(bI fr to l i).length<=i
 |0=>Nat.le_refl _
 | i+1=>by
  have:=jG fr to l i;rw[sW,List.length_append];split<;>simp<;>omega
attribute [local irreducible] bI
attribute [local go_sem] aI List.replicate_succ List.replicate_zero List.flatten_cons List.flatten_nil List.cons_append List.nil_append List.set_cons_zero List.set_cons_succ List.length_cons List.length_nil List.length_set in
theorem aFZ (l:List (List Int)) (fr to:Int) (ho:∀c,c∈l->okF fr to c) (hl:l.length<=1048576):Fz F.nZ [.sl 1 (E cC l),.agg (cFd fr to)] (.sl 1 (E cI (bI fr to l l.length))):=by
 refine fn0 Cd.i_groupsOf_k λX=>?_
 repeat' first|simp -dsimp only[go_sem,cC,cFd]|apply Br.mk<;>intro h<;>try simp -dsimp only[h]|refine aC ?_|fail
 refine aN.at dM (X:={zz:Nat×(Unit) // zz.1<=l.length∧True}) (λzz=>[(5,.loc (.t 5 0) 0 (bI fr to l zz.1.1).length),(11,.v (.int .i64 zz.1.1))]) (λzz=>[(.t 5 0,.arr 1 (E cI (bI fr to l zz.1.1)) false)]) (λzz=>l.length-zz.1.1) ⟨(0,()),by omega,trivial⟩ ?_ ?_
 .simp[Vs.LeL,Vs.look,Vs.aB,Vs.aR,Vs.aK,Vs.hset,Vs.aL,Vs.E,wM]
 .rintro⟨⟨i,_⟩,hi,hg⟩;dsimp only at hi hg;simp -dsimp only[go_sem,cC,cFd];refine Br.mk (λhc=>?_) λhc=>?_
  .have hlt:i<l.length:=Dq;have hw:=aH hlt hl;have hgl:=jG fr to l i;have gi:(E cC l).getD i []=[.sl 1 (E cI (l.getD i []))]:=by rw[aQ hlt];simp[cC,List.getD,hlt]
   have hap:E cI (bI fr to l i)++[[.v (.int .i64 (i:Int))]]=E cI (bI fr to l i++[(i:Int)]):=by rw[aV];rfl
   have hal:(E cI (bI fr to l i)).length=(bI fr to l i).length:=aI ..
   have hgs:=sW fr to l i;by_cases h0:i=0
   .subst h0;rw[if_pos (.inl rfl)] at hgs;have e0:(((0:Nat):Int)==0)=true:=rfl
    repeat' first|simp -dsimp only[go_sem,e0,hw,hap,hal,gi,cC,cFd]|apply Br.mk<;>intro h<;>try simp -dsimp only[h]|refine aC ?_|fail
    all_goals first|omega|(exact nx (0+1,()) trivial (h2:=by simp[Vs.LeL,Vs.look,Vs.aB,Vs.aR,Vs.aK,Vs.hset,Vs.aL,hgs]))
   .have e0:((i:Int)==0)=false:=by simp[h0]
    have w0:IntKind.i64.wrap ((i:Int)-1)=((i-1:Nat):Int):=by rw[aO (by omega) (by omega)];omega
    have hl1:i-1<l.length:=by omega
    have gj:(E cC l).getD (i-1) []=[.sl 1 (E cI (l.getD (i-1) []))]:=by rw[aQ hl1];simp[cC,List.getD,hl1]
    have hmi:l.getD i []∈l:=by rw[show l.getD i []=l[i] by simp[List.getD,hlt]];exact List.getElem_mem hlt
    have hmj:l.getD (i-1) []∈l:=by rw[show l.getD (i-1) []=l[i-1] by simp[List.getD,hl1]];exact List.getElem_mem hl1
    have CF:=lH (l.getD (i-1) []) (l.getD i []) fr to (ho _ hmj) (ho _ hmi);by_cases hc0:cmF fr to (l.getD (i-1) []) (l.getD i [])=0
    .have e1:(cmF fr to (l.getD (i-1) []) (l.getD i []) != 0)=false:=by rw[hc0];rfl
     rw[if_neg (by rintro(h|h)<;>contradiction),List.append_nil] at hgs
     repeat' first|simp -dsimp only[go_sem,e0,e1,w0,hw,hap,hal,gi,gj,cC,cFd]|apply Br.mk<;>intro h<;>try simp -dsimp only[h]|refine aD.c (by first|exact CF) ?_|refine aC ?_|fail
     all_goals first|omega|(exact nx (i+1,()) trivial (h2:=by simp[Vs.LeL,Vs.look,Vs.aB,Vs.aR,Vs.aK,Vs.hset,Vs.aL,hgs]))
    .have e1:(cmF fr to (l.getD (i-1) []) (l.getD i []) != 0)=true:=bne_iff_ne.2 hc0;rw[if_pos (.inr hc0)] at hgs
     repeat' first|simp -dsimp only[go_sem,e0,e1,w0,hw,hap,hal,gi,gj,cC,cFd]|apply Br.mk<;>intro h<;>try simp -dsimp only[h]|refine aD.c (by first|exact CF) ?_|refine aC ?_|fail
     all_goals first|omega|(exact nx (i+1,()) trivial (h2:=by simp[Vs.LeL,Vs.look,Vs.aB,Vs.aR,Vs.aK,Vs.hset,Vs.aL,hgs]))
  .have hge:i=l.length:=by
    have:¬i<l.length:=Dq;omega
   subst hge;simp -dsimp only[go_sem,cC,cFd];have htk:(E cI (bI fr to l l.length)).take (bI fr to l l.length).length=E cI (bI fr to l l.length):=List.take_of_length_le (by rw[aI];exact Nat.le_refl _)
   first|exact⟨⟨_,_,rfl,rfl⟩,λh=>h rfl⟩|(rw[htk];exact⟨⟨_,_,rfl,rfl⟩,λh=>h rfl⟩)|(simp[htk];done)
end
section
variable [Vs.Envs]
attribute [local irreducible] Vs.Fn bI chOK areCh chTo chAt l03 chB rk cd3 chI stp stpTo
theorem vQ {fr to:Int}{l:List (List Int)}:∀n x,x∈bI fr to l n->0<=x∧x<(n:Int)
 |0,x,h=>by rw[wM] at h;cases h
 | n+1,x,h=>by
  rw[sW] at h;rcases List.mem_append.1 h with h|h
  .have:=vQ n x h;omega
  .split at h
   .simp at h;subst h;omega
   .cases h
theorem aAM {fr to:Int}{l:List (List Int)}:∀n,(bI fr to l n).Pairwise (· < ·)
 |0=>by rw[wM];exact List.Pairwise.nil
 | n+1=>by
  rw[sW,List.pairwise_append];refine⟨aAM n,by split<;>simp,λa H b F=>?_⟩;have:=vQ n a H;split at F
  .simp at F;subst F;exact this.2
  .cases F
def fF (l:List (List Int)) (s:List Int) (i:Nat):List (List Int):=(l.take (if i+1<s.length then(s.getD (i+1) 0).toNat else l.length)).drop (s.getD i 0).toNat
def aCU (fr to:Int) (l:List (List Int)):List (List (List Int)):=(List.range (bI fr to l l.length).length).map (fF l (bI fr to l l.length))
attribute [local irreducible] fF
attribute [local go_sem] aI List.replicate_succ List.replicate_zero List.flatten_cons List.flatten_nil List.cons_append List.nil_append List.set_cons_zero List.set_cons_succ List.length_cons List.length_nil List.length_set in
theorem groups (l:List (List Int)) (fr to:Int) (ho:∀c,c∈l->okF fr to c) (hl:l.length<=1048576):Fz F.xU [.sl 1 (E cC l),.agg (cFd fr to)] (.sl 1 (E cD (aCU fr to l))):=by
 have GO:=aFZ l fr to ho hl;have SZ:=aMF l;have hgl:=jG fr to l l.length;have hin:=vQ (fr:=fr) (to:=to) (l:=l) l.length;have hup:=aAM (fr:=fr) (to:=to) (l:=l) l.length;rw[show aCU fr to l=(List.range (bI fr to l l.length).length).map (fF l (bI fr to l l.length)) from rfl];generalize bI fr to l l.length=s at *
 refine fn0 Cd.i_groups_k λX=>?_
 repeat' first|simp -dsimp only[go_sem,cC,cFd,cD]|apply Br.mk<;>intro h<;>try simp -dsimp only[h]|refine aD.c (by first|exact GO) ?_|refine aC ?_|fail
 refine aN.at dM (X:={zz:Nat×(Unit) // zz.1<=s.length∧True}) (λzz=>[(5,.loc (.t 5 0) 0 zz.1.1),(16,.v (.int .i64 zz.1.1))]) (λzz=>[(.t 5 0,.arr 1 (E cD ((List.range zz.1.1).map (fF l s))) false)]) (λzz=>s.length-zz.1.1) ⟨(0,()),by omega,trivial⟩ ?_ ?_
 .simp[Vs.LeL,Vs.look,Vs.aB,Vs.aR,Vs.aK,Vs.hset,Vs.aL,Vs.E]
 .rintro⟨⟨i,_⟩,hi,hg⟩;dsimp only at hi hg;simp -dsimp only[go_sem,cC,cFd,cD];refine Br.mk (λhc=>?_) λhc=>?_
  .have hlt:i<s.length:=Dq;have hw:=aH hlt (by omega);have hs0:=hin _ (List.getElem_mem hlt);have e:s.getD i 0=s[i]:=by simp[List.getD,hlt]
   have hap:E cD ((List.range i).map (fF l s))++[[.sl 1 (E cC (fF l s i))]]=E cD ((List.range (i+1)).map (fF l s)):=by
    rw[List.range_succ,List.map_append,aV];rfl
   have hal:(E cD ((List.range i).map (fF l s))).length=i:=by rw[aI];simp
   have hiw:IntKind.i64.wrap ((i:Int)+1)=((i+1:Nat):Int):=hw;by_cases h1:i+1<s.length
   .have e1:decide (((i+1:Nat):Int)<(s.length:Int))=true:=by simp;omega
    have hs1:=hin _ (List.getElem_mem h1);have hlt2:s[i]<s[i+1]:=List.pairwise_iff_getElem.1 hup i (i+1) hlt h1 (by omega)
    have hga:((E cC l).take s[i+1].toNat).drop s[i].toNat=E cC (fF l s i):=by
     unfold fF;rw[if_pos h1,e,show s.getD (i+1) 0=s[i+1] by simp[List.getD,h1]];simp[E,List.map_take,List.map_drop]
    simp -dsimp only[go_sem,bY hlt,bY h1,hw,e1,hal,cC,cFd,cD]
    repeat' first|simp -dsimp only[go_sem,bY hlt,bY h1,hw,e1,hap,hal,hga,cC,cFd,cD]|apply Br.mk<;>intro h<;>try simp -dsimp only[h]|refine aD.c (by first|exact SZ) ?_|refine aC ?_|fail
    all_goals first|omega|(exact nx (i+1,()) trivial (h2:=by simp[Vs.LeL,Vs.look,Vs.aB,Vs.aR,Vs.aK,Vs.hset,Vs.aL,List.range_succ]))
   .have e1:decide (((i+1:Nat):Int)<(s.length:Int))=false:=by simp;omega
    have hga:(E cC l).drop s[i].toNat=E cC (fF l s i):=by
     unfold fF;rw[if_neg h1,e,List.take_of_length_le (Nat.le_refl _)];simp[E,List.map_drop]
    simp -dsimp only[go_sem,bY hlt,hw,e1,hal,cC,cFd,cD]
    repeat' first|simp -dsimp only[go_sem,bY hlt,hw,e1,hap,hal,hga,cC,cFd,cD]|apply Br.mk<;>intro h<;>try simp -dsimp only[h]|refine aD.c (by first|exact SZ) ?_|refine aC ?_|fail
    all_goals first|omega|(exact nx (i+1,()) trivial (h2:=by simp[Vs.LeL,Vs.look,Vs.aB,Vs.aR,Vs.aK,Vs.hset,Vs.aL,List.range_succ]))
  .have hge:i=s.length:=by
    have:¬i<s.length:=Dq;omega
   subst hge;simp -dsimp only[go_sem,cC,cFd,cD];have htk:(E cD ((List.range s.length).map (fF l s))).take s.length=E cD ((List.range s.length).map (fF l s)):=List.take_of_length_le (by rw[aI];simp)
   first|exact⟨⟨_,_,rfl,rfl⟩,λh=>h rfl⟩|(rw[htk];exact⟨⟨_,_,rfl,rfl⟩,λh=>h rfl⟩)|(simp[htk];done)
end
section
variable [Vs.Envs]
attribute [local irreducible] Vs.Fn chOK areCh chTo chAt l03 chB rk cd3 chI stp stpTo
def jH (fr to:Int) (l:List (List Int)):Int:=l.foldl (λa c=>IntKind.i64.wrap (a+(gT fr to c).1)) 0
def z8 (fr to:Int) (l:List (List Int)):Bool:=l.all λc=>(gT fr to c).2
theorem aID {fr to:Int}{l:List (List Int)}{i:Nat} (h:i<l.length):jH fr to (l.take (i+1))=IntKind.i64.wrap (jH fr to (l.take i)+(gT fr to l[i]).1):=by
 unfold jH;rw[bB h,List.foldl_append];rfl
def aCo (fr to:Int) (l:List (List Int)):AV:=if z8 fr to l then .sl 1 (E cI [jH fr to l]) else .v (.slice none 0 0)
attribute [local irreducible] jH gT
attribute [local go_sem] cFd aI List.replicate_succ List.replicate_zero List.flatten_cons List.flatten_nil List.cons_append List.nil_append List.set_cons_zero List.set_cons_succ List.length_cons List.length_nil List.length_set List.getD_cons_zero in
theorem aJL (l:List (List Int)) (fr to:Int) (ho:∀c,c∈l->okP fr to c) (hl:l.length<=1048576):Fz F.vJ [.sl 2 [[.v (.int .i64 fr),.v (.int .i64 to)]],.sl 1 (E cC l)] (.tup [aCo fr to l,.v (.bool (z8 fr to l))]):=by
 refine fn0 Cd.i_sumsOf_k λX=>?_
 repeat' first|simp -dsimp only[go_sem,cC]|apply Br.mk<;>intro h<;>try simp -dsimp only[h]|refine aC ?_|fail
 refine aN.at dM (X:={zz:Nat×(Unit) // zz.1<=1∧(zz.1=1->z8 fr to l=true)}) (λzz=>[(6,.loc (.t 6 0) 0 zz.1.1),(17,.v (.int .i64 zz.1.1))]) (λzz=>[(.t 6 0,.arr 1 (E cI ([jH fr to l].take zz.1.1)) false)]) (λzz=>1-zz.1.1) ⟨(0,()),by omega,by intro h;cases h⟩ ?_ ?_
 .simp[Vs.LeL,Vs.look,Vs.aB,Vs.aR,Vs.aK,Vs.hset,Vs.aL,Vs.E]
 .rintro⟨⟨i,_⟩,hi,hg⟩;dsimp only at hi hg;simp -dsimp only[go_sem,cC];refine Br.mk (λhc=>?_) λhc=>?_
  .have hlt:i<1:=Dq;have hw:=aH hlt (by omega);obtain rfl:i=0:=by omega
   repeat' first|simp -dsimp only[go_sem,cC]|apply Br.mk<;>intro h<;>try simp -dsimp only[h]|refine aC ?_|fail
   refine aN.at dM (X:={zz:Nat×(Unit) // zz.1<=l.length∧(l.take zz.1).all (λc=>(gT fr to c).2)=true}) (λzz=>[(9,.v (.int .i64 (jH fr to (l.take zz.1.1)))),(23,.v (.int .i64 zz.1.1))]) (λzz=>[]) (λzz=>l.length-zz.1.1) ⟨(0,()),by omega,by simp⟩ ?_ ?_
   .simp[Vs.LeL,Vs.look,Vs.aB,Vs.aR,Vs.aK,Vs.hset,Vs.aL,jH]
   .rintro⟨⟨i,_⟩,hi,hg⟩;dsimp only at hi hg;simp -dsimp only[go_sem,cC];refine Br.mk (λhc=>?_) λhc=>?_
    .have hlt:i<l.length:=Dq;have hw:=aH hlt hl;have hm:(E cC l).getD i []=[.sl 1 (E cI l[i])]:=aQ hlt;have NI:=aA9 (ho _ (List.getElem_mem hlt));have hss:=aID (fr:=fr) (to:=to) hlt;cases hb:(gT fr to l[i]).2
     .rw[hb] at NI;have hna:z8 fr to l=false:=gG (p:=λc=>(gT fr to c).2) hlt hb;have hv:aCo fr to l=.v (.slice none 0 0):=by simp[aCo,hna]
      repeat' first|simp -dsimp only[go_sem,hm,hw,cC]|apply Br.mk<;>intro h<;>try simp -dsimp only[h]|refine aD.c (by first|exact NI) ?_|refine aC ?_|fail
      all_goals first|omega|(rw[hv,hna];exact⟨_,_,rfl,rfl⟩)|(simp[hv,hna];done)
     .rw[hb] at NI;simp -dsimp only[go_sem,hm,hw,cC]
      repeat' first|simp -dsimp only[go_sem,hm,hw,←hss,cC]|apply Br.mk<;>intro h<;>try simp -dsimp only[h]|refine aD.c (by first|exact NI) ?_|refine aC ?_|fail
      all_goals first|omega|(exact nx (i+1,()) (aX (p:=λc=>(gT fr to c).2) hlt hg hb) (h2:=by simp[Vs.LeL,Vs.look,Vs.aB,Vs.aR,Vs.aK,Vs.hset,Vs.aL,hss]))
    .have hge:i=l.length:=by
      have:¬i<l.length:=Dq;omega
     subst hge;simp -dsimp only[go_sem,cC];have hall:z8 fr to l=true:=by simpa[z8] using hg
     have e01:IntKind.i64.wrap 1=1:=rfl;have hfull:l.take l.length=l:=List.take_of_length_le (Nat.le_refl _);refine⟨⟨by decide,by decide,?_⟩,λh=>absurd rfl h⟩;exact⟨⟨(1,()),⟨by omega,λ_=>hall⟩⟩,by simp[Vs.LeL,Vs.look,Vs.aB,Vs.aR,Vs.aK,Vs.hset,Vs.aL,hfull,e01,Vs.E,cI],by simp only;omega⟩
  .have hge:i=1:=by
    have:¬i<1:=Dq;omega
   subst hge;simp -dsimp only[go_sem,cC];have hall:=hg rfl;rw[hall,show aCo fr to l=.sl 1 (E cI [jH fr to l]) by simp[aCo,hall]];exact⟨⟨_,_,rfl,rfl⟩,λh=>h rfl⟩
end
end Go.Proofs.YtmiiohemehacjaaGreatDoor
