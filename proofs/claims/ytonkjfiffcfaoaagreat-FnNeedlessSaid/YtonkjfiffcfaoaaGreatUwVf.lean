/- Merging: the program and the reference. -/
import Derived.Test.YtonkjfiffcfaoaaGreatUwSm
import Derived.Test.YtonkjfiffcfaoaaGreatUwSh
import Derived.Test.YtonkjfiffcfaoaaGreatUwQd
import Derived.Test.YtonkjfiffcfaoaaGreatUwQb
import Derived.Test.YtonkjfiffcfaoaaGreatVtR
import Derived.Test.YtonkjfiffcfaoaaGreatUuF
import Derived.Test.YtonkjfiffcfaoaaGreatUuR
set_option linter.all false
set_option maxHeartbeats 8000000
namespace Go.Proofs.YtonkjfiffcfaoaaGreat
open Go.Vs
section
variable [Vs.Envs]
attribute [local irreducible] Vs.Fn cZ aW dA dB l03 chB rk cd3 chI stb oU
theorem aCU {fr to:Int}{l:List (List Int)}:∀n,aY fr to l n=[]→∀i,i<n→¬cmF fr to (l.getD (i+1) []) (l.getD i [])<0
 |0,_,i,hi=>by omega
 | n+1,h,i,hi=>by
  rw[aY] at h;obtain⟨h1,h2⟩:=List.append_eq_nil_iff.1 h;by_cases hin:i=n
  ·subst hin;intro hc;rw[if_pos hc] at h2;cases h2
  ·exact aCU n h1 i (by omega)
theorem aJF {fr to:Int}{l:List (List Int)} (h:iT fr to l=true):∀i,i+1<l.length→¬cmF fr to (l.getD (i+1) []) (l.getD i [])<0:=by
 intro i hi
 have h0:stp fr to l=[]:=by
  unfold iT at h;have:=beq_iff_eq.1 h;exact List.eq_nil_of_length_eq_zero (by omega)
 exact aCU (l.length-1) h0 i (by omega)
def skp (cf:Int→Int→Int) (na:Nat) (i:Nat):Nat→Nat→Nat
 |0,k=>k
 |m+1,k=>if cf ((na+k:Nat):Int) (i:Int)<0 then skp cf na i m (k+1) else k
def mgK (cf:Int→Int→Int) (na nb:Nat):Nat→Nat
 |0=>0
 |i+1=>skp cf na i (nb-mgK cf na nb i) (mgK cf na nb i)
def rng (a n:Nat):List Int:=(List.range' a n).map fun j:Nat=>(j:Int)
def mgI (cf:Int→Int→Int) (na nb:Nat):Nat→List Int
 |0=>[]
 |i+1=>mgI cf na nb i++rng (na+mgK cf na nb i) (mgK cf na nb (i+1)-mgK cf na nb i)++[(i:Int)]
def mgF (cf:Int→Int→Int) (na nb:Nat):List Int:=mgI cf na nb na++rng (na+mgK cf na nb na) (nb-mgK cf na nb na)
theorem aIv (a:Nat):rng a 0=[]:=rfl
theorem aEq (a n:Nat):rng a (n+1)=rng a n++[((a+n:Nat):Int)]:=by
 simp[rng,List.range'_concat]
theorem xS (a n:Nat):(rng a n).length=n:=by simp[rng]
theorem aGt {a n:Nat}{x:Int} (h:x∈rng a n):∃j,a≤j∧j<a+n∧x=(j:Int):=by
 obtain⟨j,hj,rfl⟩:=List.mem_map.1 h;obtain⟨h1,h2⟩:=List.mem_range'_1.1 hj;exact⟨j,h1,h2,rfl⟩
theorem aDG (a m n:Nat):rng a m++rng (a+m) n=rng a (m+n):=by
 simp[rng,←List.map_append,List.range'_append]
theorem aIm {cf:Int→Int→Int}{na i nb k:Nat} (h:k<nb):skp cf na i (nb-k) k=if cf ((na+k:Nat):Int) (i:Int)<0 then skp cf na i (nb-(k+1)) (k+1) else k:=by
 rw[show nb-k=(nb-(k+1))+1 by omega,skp]
theorem aIl {cf:Int→Int→Int}{na i nb k:Nat} (h:¬k<nb):skp cf na i (nb-k) k=k:=by
 rw[show nb-k=0 by omega,skp]
theorem aFu (cf:Int→Int→Int) (na i:Nat):∀m k,k≤skp cf na i m k∧skp cf na i m k≤k+m
 |0,k=>by simp[skp]
 | m+1,k=>by
  rw[skp];split
  ·have:=aFu cf na i m (k+1);omega
  ·omega
theorem aIn (cf:Int→Int→Int) (na i:Nat):∀m k j,k≤j→j<skp cf na i m k→cf ((na+j:Nat):Int) (i:Int)<0
 |0,k,j,h1,h2=>by rw[skp] at h2;omega
 | m+1,k,j,h1,h2=>by
  rw[skp] at h2;split at h2
  ·rename_i hc;by_cases hj:j=k
   ·subst hj;exact hc
   ·exact aIn cf na i m (k+1) j (by omega) h2
  ·omega
theorem aIo (cf:Int→Int→Int) (na i:Nat):∀m k,skp cf na i m k<k+m→¬cf ((na+skp cf na i m k:Nat):Int) (i:Int)<0
 |0,k,h=>by rw[skp] at h;omega
 | m+1,k,h=>by
  rw[skp] at h⊢;split at h
  ·rename_i hc;rw[if_pos hc];exact aIo cf na i m (k+1) (by omega)
  ·rename_i hc;rw[if_neg hc];exact hc
theorem u6 (cf:Int→Int→Int) (na nb:Nat):∀i,mgK cf na nb i≤nb
 |0=>Nat.zero_le _
 | i+1=>by
  have h:=u6 cf na nb i;have:=aFu cf na i (nb-mgK cf na nb i) (mgK cf na nb i);rw[mgK];omega
theorem aDN (cf:Int→Int→Int) (na nb i:Nat):mgK cf na nb i≤mgK cf na nb (i+1):=by
 rw[mgK];exact(aFu cf na i _ _).1
theorem aBE (cf:Int→Int→Int) (na nb:Nat):∀i,(mgI cf na nb i).length=i+mgK cf na nb i
 |0=>rfl
 | i+1=>by
  have:=aBE cf na nb i;have h2:=aDN cf na nb i;rw[mgI];simp only[List.length_append,List.length_singleton,xS,this];omega
theorem aEB (cf:Int→Int→Int) (na nb:Nat):∀i,(mgI cf na nb i).Perm (rng 0 i++rng na (mgK cf na nb i))
 |0=>by simp[mgI,mgK,rng]
 | i+1=>by
  have ih:=aEB cf na nb i;have h2:=aDN cf na nb i;rw[mgI,aEq]
  have e:rng na (mgK cf na nb (i+1))=rng na (mgK cf na nb i)++rng (na+mgK cf na nb i) (mgK cf na nb (i+1)-mgK cf na nb i):=by
   rw[aDG];congr 1;omega
  rw[e];generalize rng (na+mgK cf na nb i) (mgK cf na nb (i+1)-mgK cf na nb i)=r at *
  generalize rng na (mgK cf na nb i)=q at *
  generalize rng 0 i=p at *
  generalize mgI cf na nb i=o at *
  rw[Nat.zero_add]
  calc o++r++[(i:Int)] |>.Perm (p++q++r++[(i:Int)]):=List.Perm.append_right _ (List.Perm.append_right _ ih)
   _ |>.Perm (p++((q++r)++[(i:Int)])):=by rw[List.append_assoc,List.append_assoc,List.append_assoc]
   _ |>.Perm (p++([(i:Int)]++(q++r))):=List.Perm.append_left _ List.perm_append_comm
   _ |>.Perm (p++[(i:Int)]++(q++r)):=by rw[List.append_assoc]
theorem aI5 (n:Nat):iota n=rng 0 n:=by simp[iota,rng,List.range_eq_range']
theorem aEC (cf:Int→Int→Int) (na nb:Nat):(mgF cf na nb).Perm (iota (na+nb)):=by
 have h1:=aEB cf na nb na;have h2:=u6 cf na nb na;unfold mgF;rw[aI5]
 have e:rng 0 (na+nb)=rng 0 na++rng na (mgK cf na nb na)++rng (na+mgK cf na nb na) (nb-mgK cf na nb na):=by
  have e1:=aDG 0 na (mgK cf na nb na);have e2:=aDG 0 (na+mgK cf na nb na) (nb-mgK cf na nb na);rw[Nat.zero_add] at e1 e2;rw[e1,e2];congr 1;omega
 rw[e];exact List.Perm.append_right _ h1
theorem aKs (cf:Int→Int→Int) (na nb:Nat):(mgF cf na nb).length=na+nb:=by rw[(aEC cf na nb).length_eq,mW]
section
variable {cf:Int→Int→Int}{R:Int→Int→Prop}{na nb:Nat} (htr:∀x y z,R x y→R y z→R x z)
 (hlt:∀i j:Nat,i<na→j<nb→cf ((na+j:Nat):Int) (i:Int)<0→R ((na+j:Nat):Int) (i:Int))
 (hge:∀i j:Nat,i<na→j<nb→¬cf ((na+j:Nat):Int) (i:Int)<0→R (i:Int) ((na+j:Nat):Int))
 (hA:∀i j:Nat,i<j→j<na→R (i:Int) (j:Int)) (hB:∀i j:Nat,i<j→j<nb→R ((na+i:Nat):Int) ((na+j:Nat):Int))
include htr hlt hge hA hB
theorem aGB:∀i,i≤na→(mgI cf na nb i).Pairwise R∧(∀x,x∈mgI cf na nb i→∀j:Nat,i≤j→j<na→R x (j:Int))∧(∀x,x∈mgI cf na nb i→∀j:Nat,mgK cf na nb i≤j→j<nb→R x ((na+j:Nat):Int))
 |0,_=>⟨List.Pairwise.nil,fun x hx=>(by cases hx),fun x hx=>(by cases hx)⟩
 | i+1,hi=>by
  obtain⟨h1,h2,h3⟩:=aGB i (by omega);have hk:=aDN cf na nb i;have hk2:=u6 cf na nb (i+1);have hk1:=u6 cf na nb i;have hsl:∀j,mgK cf na nb i≤j→j<mgK cf na nb (i+1)→cf ((na+j:Nat):Int) (i:Int)<0:=fun j a b=>aIn cf na i _ _ j a (by rw[mgK] at b;exact b)
  have hst:mgK cf na nb (i+1)<nb→¬cf ((na+mgK cf na nb (i+1):Nat):Int) (i:Int)<0:=fun h=>by
   have:=aIo cf na i (nb-mgK cf na nb i) (mgK cf na nb i);rw[mgK] at h⊢;exact this (by omega)
  rw[mgI];generalize hK:mgK cf na nb i=k at *
  generalize hK2:mgK cf na nb (i+1)=k' at *
  have hr:∀x,x∈rng (na+k) (k'-k)→∃j,k≤j∧j<k'∧x=((na+j:Nat):Int):=fun x hx=>by
   obtain⟨j,a,b,rfl⟩:=aGt hx;exact⟨j-na,by omega,by omega,by congr 1;omega⟩
  have hri:∀x,x∈rng (na+k) (k'-k)→R x (i:Int):=fun x hx=>by
   obtain⟨j,a,b,rfl⟩:=hr x hx;exact hlt i j (by omega) (by omega) (hsl j a b)
  have hii:∀j:Nat,i<j→j<na→R (i:Int) (j:Int):=fun j a b=>hA i j a b
  have hib:∀j:Nat,k'≤j→j<nb→R (i:Int) ((na+j:Nat):Int):=fun j a b=>by
   have h0:=hge i k' (by omega) (by omega) (hst (by omega));by_cases hj:j=k'
   ·subst hj;exact h0
   ·exact htr _ _ _ h0 (hB k' j (by omega) b)
  have hoi:∀x,x∈mgI cf na nb i→R x (i:Int):=fun x hx=>h2 x hx i (Nat.le_refl _) (by omega)
  have hor:∀x,x∈mgI cf na nb i→∀y,y∈rng (na+k) (k'-k)→R x y:=fun x hx y hy=>by
   obtain⟨j,a,b,rfl⟩:=hr y hy;exact h3 x hx j a (by omega)
  refine⟨?_,?_,?_⟩
  ·rw[List.pairwise_append,List.pairwise_append];refine⟨⟨h1,?_,hor⟩,List.pairwise_singleton _ _,fun x hx y hy=>?_⟩
   ·unfold rng;rw[List.pairwise_map];refine List.Pairwise.imp_of_mem (R:=fun a b=>a<b) ?_ List.pairwise_lt_range';intro a b ha hb hab;obtain⟨a1,a2⟩:=List.mem_range'_1.1 ha;obtain⟨b1,b2⟩:=List.mem_range'_1.1 hb;have:=hB (a-na) (b-na) (by omega) (by omega)
    rwa [show na+(a-na)=a by omega,show na+(b-na)=b by omega] at this
   ·rw[List.mem_singleton] at hy;subst hy;rcases List.mem_append.1 hx with hx|hx
    ·exact hoi x hx
    ·exact hri x hx
  ·intro x hx j a b;rcases List.mem_append.1 hx with hx|hx
   ·rcases List.mem_append.1 hx with hx|hx
    ·exact h2 x hx j (by omega) b
    ·exact htr _ _ _ (hri x hx) (hii j (by omega) b)
   ·rw[List.mem_singleton] at hx;subst hx;exact hii j (by omega) b
  ·intro x hx j a b;rcases List.mem_append.1 hx with hx|hx
   ·rcases List.mem_append.1 hx with hx|hx
    ·exact h3 x hx j (by omega) b
    ·obtain⟨j',a',b',rfl⟩:=hr x hx;exact hB j' j (by omega) b
   ·rw[List.mem_singleton] at hx;subst hx;exact hib j a b
theorem aKr:(mgF cf na nb).Pairwise R:=by
 obtain⟨h1,h2,h3⟩:=aGB htr hlt hge hA hB na (Nat.le_refl _);unfold mgF;rw[List.pairwise_append];refine⟨h1,?_,fun x hx y hy=>?_⟩
 ·unfold rng;rw[List.pairwise_map];refine List.Pairwise.imp_of_mem (R:=fun a b=>a<b) ?_ List.pairwise_lt_range';intro a b ha hb hab;obtain⟨a1,a2⟩:=List.mem_range'_1.1 ha;obtain⟨b1,b2⟩:=List.mem_range'_1.1 hb;have hk:=u6 cf na nb na;have:=hB (a-na) (b-na) (by omega) (by omega)
  rwa [show na+(a-na)=a by omega,show na+(b-na)=b by omega] at this
 ·obtain⟨j,a,b,rfl⟩:=aGt hy;have hk:=u6 cf na nb na;have:=h3 x hx (j-na) (by omega) (by omega)
  rwa [show na+(j-na)=j by omega] at this
end
theorem aIF {R:Nat→Nat→Prop} (htr:∀x y z,R x y→R y z→R x z) {n:Nat} (h:∀i,i+1<n→R i (i+1)):∀i j,i<j→j<n→R i j:=by
 intro i j hij hj;obtain⟨d,rfl⟩:∃d,j=i+1+d:=⟨j-(i+1),by omega⟩
 induction d with
 |zero=>exact h i hj
 |succ d ih=>exact htr _ _ _ (ih (by omega) (by omega)) (h (i+1+d) hj)
theorem aG5 {a b:List (List Int)}{i:Nat} (h:i<a.length):(a++b).getD i []=a.getD i []:=by simp[List.getD,List.getElem?_append_left h]
theorem aG4 {a b:List (List Int)} (j:Nat):(a++b).getD (a.length+j) []=b.getD j []:=by
 simp only[List.getD];rw[List.getElem?_append_right (by omega),Nat.add_sub_cancel_left]
theorem aFH {fr to:Int}{a b:List (List Int)} (ho:∀c,c∈a++b→okF fr to c) (hl:a.length+b.length≤40) (ha:iT fr to a=true) (hb:iT fr to b=true) :
  mgF (cfO fr to (a++b)) a.length b.length=oU fr to (a++b):=by
 have hlen:(a++b).length=a.length+b.length:=by simp
 obtain⟨h1,h2⟩:=aB5 ho (by omega);rw[hlen] at h1;have hin:∀i:Nat,i<a.length+b.length→inO (a++b).length (i:Int):=fun i hi=>⟨by omega,by omega⟩
 have hst:∀i j:Nat,i<j→j<a.length+b.length→¬cfO fr to (a++b) (j:Int) (i:Int)<0→wP fr to (a++b) (i:Int) (j:Int):=by
  intro i j hij hj hc;have e:=aBO ho (hin i (by omega)) (hin j hj);refine⟨⟨hin i (by omega),hin j hj⟩,?_⟩;by_cases h0:cfO fr to (a++b) (i:Int) (j:Int)=0
  ·exact .inr ⟨h0,by omega⟩
  ·exact .inl (by omega)
 have hA:∀i j:Nat,i<j→j<a.length→wP fr to (a++b) (i:Int) (j:Int):=by
  refine aIF (R:=fun i j=>wP fr to (a++b) (i:Int) (j:Int)) (fun x y z=>lU ho _ _ _) fun i hi=>?_;refine hst i (i+1) (by omega) (by omega) ?_;have:=aJF ha i hi;unfold cfO;rw[Int.toNat_natCast,Int.toNat_natCast,aG5 hi,aG5 (by omega)];exact this
 have hB:∀i j:Nat,i<j→j<b.length→wP fr to (a++b) ((a.length+i:Nat):Int) ((a.length+j:Nat):Int):=by
  refine aIF (R:=fun i j=>wP fr to (a++b) ((a.length+i:Nat):Int) ((a.length+j:Nat):Int)) (fun x y z=>lU ho _ _ _) fun i hi=>?_;refine hst _ _ (by omega) (by omega) ?_;have:=aJF hb i hi;unfold cfO;rw[Int.toNat_natCast,Int.toNat_natCast,aG4,aG4];exact this
 refine aDB (lU ho) (aAQ ho) ((aEC _ _ _).trans h1.symm) (aKr (lU ho) (fun i j hi hj hc=>?_) (fun i j hi hj hc=>?_) hA hB) h2
 ·exact⟨⟨hin _ (by omega),hin _ (by omega)⟩,.inl hc⟩
 ·exact hst i _ (by omega) (by omega) hc
end
section
variable [Vs.Envs]
attribute [local irreducible] Vs.Fn cZ aW dA dB l03 chB rk cd3 chI stp aY
def bR (fr to:Int) (l:List (List Int)):Nat→List Int
 |0=>[]
 |i+1=>bR fr to l i++(if i=0∨cmF fr to (l.getD (i-1) []) (l.getD i [])≠0 then[(i:Int)] else[])
theorem rU (fr to:Int) (l:List (List Int)) (i:Nat):bR fr to l (i+1)=bR fr to l i++(if i=0∨cmF fr to (l.getD (i-1) []) (l.getD i [])≠0 then[(i:Int)] else[]):=rfl
theorem vI (fr to:Int) (l:List (List Int)):bR fr to l 0=[]:=rfl
theorem jT (fr to:Int) (l:List (List Int)):∀i,(bR fr to l i).length≤i
 |0=>Nat.le_refl _
 | i+1=>by
  have:=jT fr to l i;rw[rU,List.length_append];split<;>simp<;>omega
attribute [local irreducible] bR
attribute [local go_sem] aG List.replicate_succ List.replicate_zero List.flatten_cons List.flatten_nil List.cons_append List.nil_append List.set_cons_zero List.set_cons_succ List.length_cons List.length_nil List.length_set in
theorem aE1 (l:List (List Int)) (fr to:Int) (ho:∀c,c∈l→okF fr to c) (hl:l.length≤1048576):Fz F.oJ [.sl 1 (E cC l),.agg (cFd fr to)] (.sl 1 (E cI (bR fr to l l.length))):=by
 refine fn0 Cd.i_groupsOf_k fun X=>?_
 repeat' first|simp -dsimp only[go_sem,cC,cFd]|apply Br.mk<;>intro h<;>try simp -dsimp only[h]|refine aC ?_|fail
 refine aN.at dM (X:={zz:Nat×(Unit) // zz.1≤l.length∧True}) (fun zz=>[(5,.loc (.t 5 0) 0 (bR fr to l zz.1.1).length),(11,.v (.int .i64 zz.1.1))]) (fun zz=>[(.t 5 0,.arr 1 (E cI (bR fr to l zz.1.1)) false)]) (fun zz=>l.length-zz.1.1) ⟨(0,()),by omega,trivial⟩ ?_ ?_
 ·simp[Vs.LeL,Vs.look,Vs.aB,Vs.aP,Vs.aK,Vs.hset,Vs.aL,Vs.E,vI]
 ·rintro⟨⟨i,_⟩,hi,hg⟩;dsimp only at hi hg;simp -dsimp only[go_sem,cC,cFd];refine Br.mk (fun hc=>?_) fun hc=>?_
  ·have hlt:i<l.length:=Dq;have hw:=aH hlt hl;have hgl:=jT fr to l i;have gi:(E cC l).getD i []=[.sl 1 (E cI (l.getD i []))]:=by rw[aT hlt];simp[cC,List.getD,hlt]
   have hap:E cI (bR fr to l i)++[[.v (.int .i64 (i:Int))]]=E cI (bR fr to l i++[(i:Int)]):=by rw[aR];rfl
   have hal:(E cI (bR fr to l i)).length=(bR fr to l i).length:=aG ..
   have hgs:=rU fr to l i;by_cases h0:i=0
   ·subst h0;rw[if_pos (.inl rfl)] at hgs;have e0:(((0:Nat):Int)==0)=true:=rfl
    repeat' first|simp -dsimp only[go_sem,e0,hw,hap,hal,gi,cC,cFd]|apply Br.mk<;>intro h<;>try simp -dsimp only[h]|refine aC ?_|fail
    all_goals first|omega|(exact nx (0+1,()) trivial (h2:=by simp[Vs.LeL,Vs.look,Vs.aB,Vs.aP,Vs.aK,Vs.hset,Vs.aL,hgs]))
   ·have e0:((i:Int)==0)=false:=by simp[h0]
    have w0:IntKind.i64.wrap ((i:Int)-1)=((i-1:Nat):Int):=by rw[aO (by omega) (by omega)];omega
    have hl1:i-1<l.length:=by omega
    have gj:(E cC l).getD (i-1) []=[.sl 1 (E cI (l.getD (i-1) []))]:=by rw[aT hl1];simp[cC,List.getD,hl1]
    have hmi:l.getD i []∈l:=by rw[show l.getD i []=l[i] by simp[List.getD,hlt]];exact List.getElem_mem hlt
    have hmj:l.getD (i-1) []∈l:=by rw[show l.getD (i-1) []=l[i-1] by simp[List.getD,hl1]];exact List.getElem_mem hl1
    have CF:=lK (l.getD (i-1) []) (l.getD i []) fr to (ho _ hmj) (ho _ hmi);by_cases hc0:cmF fr to (l.getD (i-1) []) (l.getD i [])=0
    ·have e1:(cmF fr to (l.getD (i-1) []) (l.getD i []) != 0)=false:=by rw[hc0];rfl
     rw[if_neg (by rintro(h|h)<;>contradiction),List.append_nil] at hgs
     repeat' first|simp -dsimp only[go_sem,e0,e1,w0,hw,hap,hal,gi,gj,cC,cFd]|apply Br.mk<;>intro h<;>try simp -dsimp only[h]|refine aA.c (by first|exact CF) ?_|refine aC ?_|fail
     all_goals first|omega|(exact nx (i+1,()) trivial (h2:=by simp[Vs.LeL,Vs.look,Vs.aB,Vs.aP,Vs.aK,Vs.hset,Vs.aL,hgs]))
    ·have e1:(cmF fr to (l.getD (i-1) []) (l.getD i []) != 0)=true:=bne_iff_ne.2 hc0;rw[if_pos (.inr hc0)] at hgs
     repeat' first|simp -dsimp only[go_sem,e0,e1,w0,hw,hap,hal,gi,gj,cC,cFd]|apply Br.mk<;>intro h<;>try simp -dsimp only[h]|refine aA.c (by first|exact CF) ?_|refine aC ?_|fail
     all_goals first|omega|(exact nx (i+1,()) trivial (h2:=by simp[Vs.LeL,Vs.look,Vs.aB,Vs.aP,Vs.aK,Vs.hset,Vs.aL,hgs]))
  ·have hge:i=l.length:=by
    have:¬i<l.length:=Dq;omega
   subst hge;simp -dsimp only[go_sem,cC,cFd];have htk:(E cI (bR fr to l l.length)).take (bR fr to l l.length).length=E cI (bR fr to l l.length):=List.take_of_length_le (by rw[aG];exact Nat.le_refl _)
   first|exact⟨⟨_,_,rfl,rfl⟩,fun h=>h rfl⟩|(rw[htk];exact⟨⟨_,_,rfl,rfl⟩,fun h=>h rfl⟩)|(simp[htk];done)
end
section
variable [Vs.Envs]
attribute [local irreducible] Vs.Fn bR cZ aW dA dB l03 chB rk cd3 chI stp aY
theorem uH {fr to:Int}{l:List (List Int)}:∀n x,x∈bR fr to l n→0≤x∧x<(n:Int)
 |0,x,h=>by rw[vI] at h;cases h
 | n+1,x,h=>by
  rw[rU] at h;rcases List.mem_append.1 h with h|h
  ·have:=uH n x h;omega
  ·split at h
   ·simp at h;subst h;omega
   ·cases h
theorem aAy {fr to:Int}{l:List (List Int)}:∀n,(bR fr to l n).Pairwise (· < ·)
 |0=>by rw[vI];exact List.Pairwise.nil
 | n+1=>by
  rw[rU,List.pairwise_append];refine⟨aAy n,by split<;>simp,fun a ha b hb=>?_⟩;have:=uH n a ha;split at hb
  ·simp at hb;subst hb;exact this.2
  ·cases hb
def fQ (l:List (List Int)) (s:List Int) (i:Nat):List (List Int):=(l.take (if i+1<s.length then(s.getD (i+1) 0).toNat else l.length)).drop (s.getD i 0).toNat
def aCl (fr to:Int) (l:List (List Int)):List (List (List Int)):=(List.range (bR fr to l l.length).length).map (fQ l (bR fr to l l.length))
attribute [local irreducible] fQ
attribute [local go_sem] aG List.replicate_succ List.replicate_zero List.flatten_cons List.flatten_nil List.cons_append List.nil_append List.set_cons_zero List.set_cons_succ List.length_cons List.length_nil List.length_set in
theorem groups (l:List (List Int)) (fr to:Int) (ho:∀c,c∈l→okF fr to c) (hl:l.length≤1048576):Fz F.wX [.sl 1 (E cC l),.agg (cFd fr to)] (.sl 1 (E cD (aCl fr to l))):=by
 have GO:=aE1 l fr to ho hl;have SZ:=aK9 l;have hgl:=jT fr to l l.length;have hin:=uH (fr:=fr) (to:=to) (l:=l) l.length;have hup:=aAy (fr:=fr) (to:=to) (l:=l) l.length;rw[show aCl fr to l=(List.range (bR fr to l l.length).length).map (fQ l (bR fr to l l.length)) from rfl];generalize bR fr to l l.length=s at *
 refine fn0 Cd.i_groups_k fun X=>?_
 repeat' first|simp -dsimp only[go_sem,cC,cFd,cD]|apply Br.mk<;>intro h<;>try simp -dsimp only[h]|refine aA.c (by first|exact GO) ?_|refine aC ?_|fail
 refine aN.at dM (X:={zz:Nat×(Unit) // zz.1≤s.length∧True}) (fun zz=>[(5,.loc (.t 5 0) 0 zz.1.1),(16,.v (.int .i64 zz.1.1))]) (fun zz=>[(.t 5 0,.arr 1 (E cD ((List.range zz.1.1).map (fQ l s))) false)]) (fun zz=>s.length-zz.1.1) ⟨(0,()),by omega,trivial⟩ ?_ ?_
 ·simp[Vs.LeL,Vs.look,Vs.aB,Vs.aP,Vs.aK,Vs.hset,Vs.aL,Vs.E]
 ·rintro⟨⟨i,_⟩,hi,hg⟩;dsimp only at hi hg;simp -dsimp only[go_sem,cC,cFd,cD];refine Br.mk (fun hc=>?_) fun hc=>?_
  ·have hlt:i<s.length:=Dq;have hw:=aH hlt (by omega);have hs0:=hin _ (List.getElem_mem hlt);have e:s.getD i 0=s[i]:=by simp[List.getD,hlt]
   have hap:E cD ((List.range i).map (fQ l s))++[[.sl 1 (E cC (fQ l s i))]]=E cD ((List.range (i+1)).map (fQ l s)):=by
    rw[List.range_succ,List.map_append,aR];rfl
   have hal:(E cD ((List.range i).map (fQ l s))).length=i:=by rw[aG];simp
   have hiw:IntKind.i64.wrap ((i:Int)+1)=((i+1:Nat):Int):=hw;by_cases h1:i+1<s.length
   ·have e1:decide (((i+1:Nat):Int)<(s.length:Int))=true:=by simp;omega
    have hs1:=hin _ (List.getElem_mem h1);have hlt2:s[i]<s[i+1]:=List.pairwise_iff_getElem.1 hup i (i+1) hlt h1 (by omega)
    have hga:((E cC l).take s[i+1].toNat).drop s[i].toNat=E cC (fQ l s i):=by
     unfold fQ;rw[if_pos h1,e,show s.getD (i+1) 0=s[i+1] by simp[List.getD,h1]];simp[E,List.map_take,List.map_drop]
    simp -dsimp only[go_sem,dI hlt,dI h1,hw,e1,hal,cC,cFd,cD]
    repeat' first|simp -dsimp only[go_sem,dI hlt,dI h1,hw,e1,hap,hal,hga,cC,cFd,cD]|apply Br.mk<;>intro h<;>try simp -dsimp only[h]|refine aA.c (by first|exact SZ) ?_|refine aC ?_|fail
    all_goals first|omega|(exact nx (i+1,()) trivial (h2:=by simp[Vs.LeL,Vs.look,Vs.aB,Vs.aP,Vs.aK,Vs.hset,Vs.aL,List.range_succ]))
   ·have e1:decide (((i+1:Nat):Int)<(s.length:Int))=false:=by simp;omega
    have hga:(E cC l).drop s[i].toNat=E cC (fQ l s i):=by
     unfold fQ;rw[if_neg h1,e,List.take_of_length_le (Nat.le_refl _)];simp[E,List.map_drop]
    simp -dsimp only[go_sem,dI hlt,hw,e1,hal,cC,cFd,cD]
    repeat' first|simp -dsimp only[go_sem,dI hlt,hw,e1,hap,hal,hga,cC,cFd,cD]|apply Br.mk<;>intro h<;>try simp -dsimp only[h]|refine aA.c (by first|exact SZ) ?_|refine aC ?_|fail
    all_goals first|omega|(exact nx (i+1,()) trivial (h2:=by simp[Vs.LeL,Vs.look,Vs.aB,Vs.aP,Vs.aK,Vs.hset,Vs.aL,List.range_succ]))
  ·have hge:i=s.length:=by
    have:¬i<s.length:=Dq;omega
   subst hge;simp -dsimp only[go_sem,cC,cFd,cD];have htk:(E cD ((List.range s.length).map (fQ l s))).take s.length=E cD ((List.range s.length).map (fQ l s)):=List.take_of_length_le (by rw[aG];simp)
   first|exact⟨⟨_,_,rfl,rfl⟩,fun h=>h rfl⟩|(rw[htk];exact⟨⟨_,_,rfl,rfl⟩,fun h=>h rfl⟩)|(simp[htk];done)
end
section
variable [Vs.Envs]
attribute [local irreducible] Vs.Fn cZ aW dA dB l03 chB rk cd3 chI stp aY
def jU (fr to:Int) (l:List (List Int)):Int:=l.foldl (fun a c=>IntKind.i64.wrap (a+(lW fr to c).1)) 0
def zN (fr to:Int) (l:List (List Int)):Bool:=l.all fun c=>(lW fr to c).2
theorem aHe {fr to:Int}{l:List (List Int)}{i:Nat} (h:i<l.length):jU fr to (l.take (i+1))=IntKind.i64.wrap (jU fr to (l.take i)+(lW fr to l[i]).1):=by
 unfold jU;rw[bK h,List.foldl_append];rfl
def aBU (fr to:Int) (l:List (List Int)):AV:=if zN fr to l then .sl 1 (E cI [jU fr to l]) else .v (.slice none 0 0)
attribute [local irreducible] jU lW
attribute [local go_sem] cFd aG List.replicate_succ List.replicate_zero List.flatten_cons List.flatten_nil List.cons_append List.nil_append List.set_cons_zero List.set_cons_succ List.length_cons List.length_nil List.length_set List.getD_cons_zero in
theorem aH7 (l:List (List Int)) (fr to:Int) (ho:∀c,c∈l→okP fr to c) (hl:l.length≤1048576):Fz F.tZ [.sl 2 [[.v (.int .i64 fr),.v (.int .i64 to)]],.sl 1 (E cC l)] (.tup [aBU fr to l,.v (.bool (zN fr to l))]):=by
 refine fn0 Cd.i_sumsOf_k fun X=>?_
 repeat' first|simp -dsimp only[go_sem,cC]|apply Br.mk<;>intro h<;>try simp -dsimp only[h]|refine aC ?_|fail
 refine aN.at dM (X:={zz:Nat×(Unit) // zz.1≤1∧(zz.1=1→zN fr to l=true)}) (fun zz=>[(6,.loc (.t 6 0) 0 zz.1.1),(17,.v (.int .i64 zz.1.1))]) (fun zz=>[(.t 6 0,.arr 1 (E cI ([jU fr to l].take zz.1.1)) false)]) (fun zz=>1-zz.1.1) ⟨(0,()),by omega,by intro h;cases h⟩ ?_ ?_
 ·simp[Vs.LeL,Vs.look,Vs.aB,Vs.aP,Vs.aK,Vs.hset,Vs.aL,Vs.E]
 ·rintro⟨⟨i,_⟩,hi,hg⟩;dsimp only at hi hg;simp -dsimp only[go_sem,cC];refine Br.mk (fun hc=>?_) fun hc=>?_
  ·have hlt:i<1:=Dq;have hw:=aH hlt (by omega);obtain rfl:i=0:=by omega
   repeat' first|simp -dsimp only[go_sem,cC]|apply Br.mk<;>intro h<;>try simp -dsimp only[h]|refine aC ?_|fail
   refine aN.at dM (X:={zz:Nat×(Unit) // zz.1≤l.length∧(l.take zz.1).all (fun c=>(lW fr to c).2)=true}) (fun zz=>[(9,.v (.int .i64 (jU fr to (l.take zz.1.1)))),(23,.v (.int .i64 zz.1.1))]) (fun zz=>[]) (fun zz=>l.length-zz.1.1) ⟨(0,()),by omega,by simp⟩ ?_ ?_
   ·simp[Vs.LeL,Vs.look,Vs.aB,Vs.aP,Vs.aK,Vs.hset,Vs.aL,jU]
   ·rintro⟨⟨i,_⟩,hi,hg⟩;dsimp only at hi hg;simp -dsimp only[go_sem,cC];refine Br.mk (fun hc=>?_) fun hc=>?_
    ·have hlt:i<l.length:=Dq;have hw:=aH hlt hl;have hm:(E cC l).getD i []=[.sl 1 (E cI l[i])]:=aT hlt;have NI:=aHr (ho _ (List.getElem_mem hlt));have hss:=aHe (fr:=fr) (to:=to) hlt;cases hb:(lW fr to l[i]).2
     ·rw[hb] at NI;have hna:zN fr to l=false:=dX (p:=fun c=>(lW fr to c).2) hlt hb;have hv:aBU fr to l=.v (.slice none 0 0):=by simp[aBU,hna]
      repeat' first|simp -dsimp only[go_sem,hm,hw,cC]|apply Br.mk<;>intro h<;>try simp -dsimp only[h]|refine aA.c (by first|exact NI) ?_|refine aC ?_|fail
      all_goals first|omega|(rw[hv,hna];exact⟨_,_,rfl,rfl⟩)|(simp[hv,hna];done)
     ·rw[hb] at NI;simp -dsimp only[go_sem,hm,hw,cC]
      repeat' first|simp -dsimp only[go_sem,hm,hw,←hss,cC]|apply Br.mk<;>intro h<;>try simp -dsimp only[h]|refine aA.c (by first|exact NI) ?_|refine aC ?_|fail
      all_goals first|omega|(exact nx (i+1,()) (bB (p:=fun c=>(lW fr to c).2) hlt hg hb) (h2:=by simp[Vs.LeL,Vs.look,Vs.aB,Vs.aP,Vs.aK,Vs.hset,Vs.aL,hss]))
    ·have hge:i=l.length:=by
      have:¬i<l.length:=Dq;omega
     subst hge;simp -dsimp only[go_sem,cC];have hall:zN fr to l=true:=by simpa[zN] using hg
     have e01:IntKind.i64.wrap 1=1:=rfl;have hfull:l.take l.length=l:=List.take_of_length_le (Nat.le_refl _);refine⟨⟨by decide,by decide,?_⟩,fun h=>absurd rfl h⟩;exact⟨⟨(1,()),⟨by omega,fun _=>hall⟩⟩,by simp[Vs.LeL,Vs.look,Vs.aB,Vs.aP,Vs.aK,Vs.hset,Vs.aL,hfull,e01,Vs.E,cI],by simp only;omega⟩
  ·have hge:i=1:=by
    have:¬i<1:=Dq;omega
   subst hge;simp -dsimp only[go_sem,cC];have hall:=hg rfl;rw[hall,show aBU fr to l=.sl 1 (E cI [jU fr to l]) by simp[aBU,hall]];exact⟨⟨_,_,rfl,rfl⟩,fun h=>h rfl⟩
end
section
variable [Vs.Envs]
attribute [local irreducible] Vs.Fn jU lW fQ bR cZ aW dA dB l03 chB rk cd3 chI stp aY
theorem aHM (a:List Int) (fr to:Int) (ha:okF fr to a) (hh:cB (fH fr to a)=true):Fz F.o7 [.agg (cC a),.agg (cFd fr to)] (.v (.string (txt (fH fr to a)))):=by
 refine fn0 Cd.i_fieldText_k fun X=>?_
 repeat' first|simp -dsimp only[go_sem,cC,cFd,fH_E,List.replicate_succ,List.replicate_zero,List.flatten_cons,List.flatten_nil,List.cons_append,List.nil_append,List.set_cons_zero,List.set_cons_succ,List.length_cons,List.length_nil,List.length_set,List.getD_cons_zero]|apply Br.mk<;>intro h<;>try simp -dsimp only[h]|refine RgK.mk rfl ?_|refine aA.c (by first|exact textOf _ (aAD ha) hh) ?_|refine And.intro (by first|rfl|omega|decide|exact bX ha|exact bX hb|exact⟨rfl,bX ha⟩|exact⟨rfl,bX hb⟩|exact bF ha|exact bF hb|exact⟨rfl,bF ha⟩|exact⟨rfl,bF hb⟩|(refine⟨?_,?_⟩<;>(first|rfl|omega|decide|exact bX ha|exact bX hb|exact⟨rfl,bX ha⟩|exact⟨rfl,bX hb⟩|exact bF ha|exact bF hb|exact⟨rfl,bF ha⟩|exact⟨rfl,bF hb⟩))|(refine⟨?_,?_,?_⟩<;>(first|rfl|omega|decide|exact bX ha|exact bX hb|exact⟨rfl,bX ha⟩|exact⟨rfl,bX hb⟩|exact bF ha|exact bF hb|exact⟨rfl,bF ha⟩|exact⟨rfl,bF hb⟩))|(refine⟨?_,?_,?_,?_⟩<;>(first|rfl|omega|decide|exact bX ha|exact bX hb|exact⟨rfl,bX ha⟩|exact⟨rfl,bX hb⟩|exact bF ha|exact bF hb|exact⟨rfl,bF ha⟩|exact⟨rfl,bF hb⟩))) ?_|fail
 all_goals(simp_all)
theorem aEZ {fr to:Int}{l:List (List Int)}{g:List (List Int)} (h:g∈aCl fr to l):0<g.length∧g.length≤l.length∧∀c,c∈g→c∈l:=by
 unfold aCl at h;obtain⟨i,hi,rfl⟩:=List.mem_map.1 h;have hi:=List.mem_range.1 hi;have hin:=uH (fr:=fr) (to:=to) (l:=l) l.length;have hup:=aAy (fr:=fr) (to:=to) (l:=l) l.length;generalize bR fr to l l.length=s at *
 have h0:=hin _ (List.getElem_mem hi);have e:s.getD i 0=s[i]:=by simp[List.getD,hi]
 unfold fQ;rw[e];refine⟨?_,?_,fun c hc=>List.mem_of_mem_take (List.mem_of_mem_drop hc)⟩
 ·rw[List.length_drop,List.length_take];split
  ·rename_i h1;have hs1:=hin _ (List.getElem_mem h1);have hlt2:s[i]<s[i+1]:=List.pairwise_iff_getElem.1 hup i (i+1) hi h1 (by omega);rw[show s.getD (i+1) 0=s[i+1] by simp[List.getD,h1]];omega
  ·omega
 ·rw[List.length_drop,List.length_take];omega
theorem aE0 (fr to:Int) (l:List (List Int)):(aCl fr to l).length≤l.length:=by
 unfold aCl;rw[List.length_map,List.length_range];exact jT fr to l l.length
def cTt (t:ByteArray×Int):List AV:=[.v (.string t.1),.v (.int .i64 t.2)]
def oK (fr to sf st:Int) (l:List (List Int)):List (ByteArray×Int):=(aCl fr to l).map fun g=>(txt (fH fr to (g.getD 0 [])),jU sf st g)
def nG (fr to sf st:Int) (l:List (List Int)):Bool:=zN sf st l&&bT fr to l
def vS (fr to sf st:Int) (l:List (List Int)):AV:=if nG fr to sf st l then .sl 2 (E cTt (oK fr to sf st l)) else .v (.slice none 0 0)
attribute [local irreducible] aCl
attribute [local go_sem] aG List.replicate_succ List.replicate_zero List.flatten_cons List.flatten_nil List.cons_append List.nil_append List.set_cons_zero List.set_cons_succ List.length_cons List.length_nil List.length_set List.getD_cons_zero cD List.mem_singleton Vs.Name.t.injEq List.mem_cons List.not_mem_nil or_false false_or in
theorem aH4 (l:List (List Int)) (fr to sf st:Int) (ho:∀c,c∈l→okF fr to c) (hp:∀c,c∈l→okP sf st c) (hl:l.length≤1048576):Fz F.rH [.sl 1 (E cC l),.agg (cFd fr to),.agg (cFd sf st)] (.tup [vS fr to sf st l,.v (.int .i64 (if nG fr to sf st l then 0 else 8))]):=by
 have SO:=aH7 l sf st hp hl;have HF:=qI l fr to ho hl;have GR:=groups l fr to ho hl;cases hN:zN sf st l
 ·rw[hN] at SO;have hb:nG fr to sf st l=false:=by simp[nG,hN]
  rw[show vS fr to sf st l=.v (.slice none 0 0) by simp[vS,hb],hb];refine fn0 Cd.i_totalsOf_k fun X=>?_
  repeat' first|simp -dsimp only[go_sem,cC,cFd]|apply Br.mk<;>intro h<;>try simp -dsimp only[h]|refine aA.c (by first|exact SO|exact HF) ?_|refine aC ?_|fail
  all_goals first|exact⟨_,_,rfl,rfl⟩|simp
 rw[hN] at SO;cases hC:bT fr to l
 ·rw[hC] at HF;have hb:nG fr to sf st l=false:=by simp[nG,hC]
  rw[show vS fr to sf st l=.v (.slice none 0 0) by simp[vS,hb],hb];refine fn0 Cd.i_totalsOf_k fun X=>?_
  repeat' first|simp -dsimp only[go_sem,cC,cFd]|apply Br.mk<;>intro h<;>try simp -dsimp only[h]|refine aA.c (by first|exact SO|exact HF) ?_|refine aC ?_|fail
  all_goals first|exact⟨_,_,rfl,rfl⟩|simp
 rw[hC] at HF;have hb:nG fr to sf st l=true:=by simp[nG,hN,hC]
 rw[show vS fr to sf st l=.sl 2 (E cTt (oK fr to sf st l)) by simp[vS,hb],hb];have hgm:∀g,g∈aCl fr to l→0<g.length∧g.length≤l.length∧∀c,c∈g→c∈l:=fun g hg=>aEZ hg;have hGl:=aE0 fr to l;unfold oK;generalize aCl fr to l=G at *
 refine fn0 Cd.i_totalsOf_k fun X=>?_
 repeat' first|simp -dsimp only[go_sem,cC,cFd]|apply Br.mk<;>intro h<;>try simp -dsimp only[h]|refine aA.c (by first|exact SO|exact HF|exact GR) ?_|refine aC ?_|fail
 refine aN.at dM (X:={zz:Nat×(Unit) // zz.1≤G.length∧True}) (fun zz=>[(10,.loc (.t 10 0) 0 zz.1.1),(35,.v (.int .i64 zz.1.1))]) (fun zz=>[(.t 10 0,.arr 2 (E cTt ((G.take zz.1.1).map fun g=>(txt (fH fr to (g.getD 0 [])),jU sf st g))) false)]) (fun zz=>G.length-zz.1.1) ⟨(0,()),by omega,trivial⟩ ?_ ?_
 ·simp[Vs.LeL,Vs.look,Vs.aB,Vs.aP,Vs.aK,Vs.hset,Vs.aL,Vs.E]
 ·rintro⟨⟨i,_⟩,hi,hg⟩;dsimp only at hi hg;simp -dsimp only[go_sem,cC,cFd];refine Br.mk (fun hc=>?_) fun hc=>?_
  ·have hlt:i<G.length:=Dq;have hw:=aH hlt (by omega);obtain⟨g0,g1,g2⟩:=hgm _ (List.getElem_mem hlt);have hgi:(E cD G).getD i []=[.sl 1 (E cC G[i])]:=aT hlt;have SG:=aH7 G[i] sf st (fun c hc=>hp c (g2 c hc)) (by omega);have hNg:zN sf st G[i]=true:=List.all_eq_true.2 fun c hc=>List.all_eq_true.1 hN c (g2 c hc);rw[show aBU sf st G[i]=.sl 1 (E cI [jU sf st G[i]]) by simp[aBU,hNg],hNg] at SG;have hm0:G[i].getD 0 []∈G[i]:=by rw[show G[i].getD 0 []=G[i][0] by simp[List.getD,g0]];exact List.getElem_mem g0
   have hg0:(E cC G[i]).getD 0 []=[.sl 1 (E cI (G[i].getD 0 []))]:=by rw[aT g0];simp[cC,List.getD,g0]
   have FT:=aHM (G[i].getD 0 []) fr to (ho _ (g2 _ hm0)) (List.all_eq_true.1 hC _ (g2 _ hm0));have hs0:(E cI [jU sf st G[i]]).getD 0 []=[.v (.int .i64 (jU sf st G[i]))]:=rfl
   have hap:E cTt ((G.take i).map fun g=>(txt (fH fr to (g.getD 0 [])),jU sf st g))++[[.v (.string (txt (fH fr to (G[i].getD 0 [])))),.v (.int .i64 (jU sf st G[i]))]]=E cTt ((G.take (i+1)).map fun g=>(txt (fH fr to (g.getD 0 [])),jU sf st g)):=by
    rw[bK hlt,List.map_append,aR];rfl
   have hal:(E cTt ((G.take i).map fun g=>(txt (fH fr to (g.getD 0 [])),jU sf st g))).length=i:=by rw[aG];simp;omega
   simp -dsimp only[go_sem,hgi,hg0,hs0,hw,hal,cC,cFd]
   repeat' first|simp -dsimp only[go_sem,hgi,hg0,hs0,hw,hap,hal,cC,cFd]|apply Br.mk<;>intro h<;>try simp -dsimp only[h]|refine aA.c (by first|exact SG|exact FT) ?_|refine aC ?_|fail
   all_goals first|omega|(exact nx (i+1,()) trivial (h2:=by simp[Vs.LeL,Vs.look,Vs.aB,Vs.aP,Vs.aK,Vs.hset,Vs.aL,hap]))
  ·have hge:i=G.length:=by
    have:¬i<G.length:=Dq;omega
   subst hge;simp -dsimp only[go_sem,cC,cFd]
   have htk:(E cTt ((G.take G.length).map fun g=>(txt (fH fr to (g.getD 0 [])),jU sf st g))).take G.length=E cTt (G.map fun g=>(txt (fH fr to (g.getD 0 [])),jU sf st g)):=by
    rw[List.take_of_length_le (Nat.le_refl G.length)];exact List.take_of_length_le (by rw[aG];simp)
   first|exact⟨⟨_,_,rfl,rfl⟩,fun h=>h rfl⟩|(rw[htk];exact⟨⟨_,_,rfl,rfl⟩,fun h=>h rfl⟩)|(simp[htk];done)
end
section
variable [Vs.Envs]
attribute [local irreducible] Vs.Fn cZ aW dA dB l03 chB rk cd3 chI stp aY
theorem aL8 (w:Nat) (hw:w≤1000):Vs.Fn Tryz.prog F.yC [] [.v (.int .i64 w)] (.agg [.loc (.b 0) 0 w]) [some (.arr 1 (List.replicate w [.v (.int .i64 0)]) false)]:=by
 have hz:((w:Int)).toNat=w:=by omega
 refine fn1 Cd.i_blank_k [.t 4 0] [.arr 1 (List.replicate w [.v (.int .i64 0)]) false] fun X=>?_;unfold Cd.yC
 repeat' first|simp -dsimp only[go_sem,aG,List.set_cons_zero,List.set_cons_succ,List.length_cons,List.length_nil,List.length_set,List.length_replicate,List.flatMap_cons,List.flatMap_nil,bA,bN,aZ,List.getD_cons_zero,List.append_nil,List.nil_append,List.cons_append,hz]|apply Br.mk<;>intro h<;>try simp -dsimp only[h]|refine aC ?_|fail
 all_goals first|exact⟨_,_,rfl,rfl⟩
def bcd (s:ByteArray):List Int:=s.data.toList.map fun b=>cd3 (b.toNat:Int)
def oQ (s:ByteArray) (w i:Nat):List Int:=(bcd s).take i++List.replicate (w-i) 0
def pun (s:ByteArray) (w:Nat):List Int:=bcd s++List.replicate (w-s.size) 0
theorem aBP (s:ByteArray):(bcd s).length=s.size:=by simp[bcd]
theorem aFB (s:ByteArray) (w:Nat):E cI (oQ s w 0)=List.replicate w [.v (.int .i64 0)]:=by simp[oQ,E,cI]
theorem aB2 (s:ByteArray) (w:Nat):oQ s w s.size=pun s w:=by
 unfold oQ pun;rw[List.take_of_length_le (by rw[aBP];exact Nat.le_refl _)]
theorem xU {s:ByteArray}{w i:Nat} (h:i≤s.size) (hw:s.size≤w):(oQ s w i).length=w:=by
 have:=aBP s;simp[oQ];omega
theorem aHq {s:ByteArray}{w i:Nat} (h:i<s.size) (hw:s.size≤w):(E cI (oQ s w i)).set i [.v (.int .i64 (cd3 ((s.data.toList.getD i 0).toNat:Int)))]=E cI (oQ s w (i+1)):=by
 have hl:=aBP s;have hib:i<(bcd s).length:=by omega
 have hA:((bcd s).take i).length=i:=by simp;omega
 have hb:(bcd s)[i]=cd3 ((s.data.toList.getD i 0).toNat:Int):=by
  have hi2:i<s.data.toList.length:=by simpa[bcd] using hib
  have e2:s.data.toList.getD i 0=s.data.toList[i]:=by rw[List.getD_eq_getElem?_getD,List.getElem?_eq_getElem hi2];rfl
  rw[e2];simp[bcd]
 have e:(oQ s w i).set i (cd3 ((s.data.toList.getD i 0).toNat:Int))=oQ s w (i+1):=by
  unfold oQ;rw[show w-i=(w-(i+1))+1 by omega,List.replicate_succ,List.set_append,if_neg (by omega),hA,Nat.sub_self,List.set_cons_zero,bK hib,hb];simp
 rw[←e];simp[E,List.map_set,cI]
attribute [local irreducible] oQ
attribute [local go_sem] aG List.set_cons_zero List.set_cons_succ List.length_cons List.length_nil List.length_set List.length_replicate List.flatMap_cons List.flatMap_nil bA bN aZ List.getD_cons_zero List.append_nil List.nil_append List.cons_append in
theorem aHp (s:ByteArray) (w:Nat) (hw:w≤1000) (hs:s.size≤w):Fz F.o6 [.v (.string s),.v (.int .i64 w)] (.agg [.sl 1 (E cI (pun s w))]):=by
 have BL:=aL8 w hw;refine fn0 Cd.i_punchText_k fun X=>?_;simp -dsimp only[go_sem];refine aA.own BL rfl ?_
 repeat' first|simp -dsimp only[go_sem]|apply Br.mk<;>intro h<;>try simp -dsimp only[h]|refine aC ?_|fail
 refine aN.at dM (X:={zz:Nat×(Unit) // zz.1≤s.size∧True}) (fun zz=>[(6,.v (.int .i64 zz.1.1))]) (fun zz=>[(.t 8 0,.arr 1 (E cI (oQ s w zz.1.1)) false)]) (fun zz=>s.size-zz.1.1) ⟨(0,()),by omega,trivial⟩ ?_ ?_
 ·simp[Vs.LeL,Vs.look,Vs.aB,Vs.aP,Vs.aK,Vs.hset,Vs.aL,aFB]
 ·rintro⟨⟨i,_⟩,hi,hg⟩;dsimp only at hi hg;simp -dsimp only[go_sem];refine Br.mk (fun hc=>?_) fun hc=>?_
  ·have hlt:i<s.size:=Dq;have hw:=aH hlt (by omega);have hps:=aHq (w:=w) hlt hs;have hpl:(E cI (oQ s w i)).length=w:=by rw[aG];exact xU (by omega) hs
   have CO:=codeOf ((s.data.toList.getD i 0).toNat:Int)
   have hrow:∃y,(E cI (oQ s w i)).getD i []=[y]:=by
    have hil:i<(oQ s w i).length:=by rw[xU (by omega) hs];omega
    exact⟨.v (.int .i64 (oQ s w i)[i]),by rw[aT hil];rfl⟩
   obtain⟨y,hy⟩:=hrow
   repeat' first|simp -dsimp only[go_sem,hw,hps,hpl,hy]|apply Br.mk<;>intro h<;>try simp -dsimp only[h]|refine aA.c (by first|exact CO) ?_|refine aC ?_|fail
   all_goals first|omega|(exact nx (i+1,()) trivial (h2:=by simp[Vs.LeL,Vs.look,Vs.aB,Vs.aP,Vs.aK,Vs.hset,Vs.aL,hps]))
  ·have hge:i=s.size:=by
    have:¬i<s.size:=Dq;omega
   subst hge;simp -dsimp only[go_sem];have hpf:=aB2 s w;have hpl:(E cI (pun s w)).length=w:=by rw[aG,←hpf];exact xU (Nat.le_refl _) hs
   have htk:(E cI (pun s w)).take w=E cI (pun s w):=List.take_of_length_le (by omega)
   first|(rw[hpf,htk];exact⟨⟨_,_,rfl,rfl⟩,fun h=>h rfl⟩)|(simp[hpf,htk];done)
end
section
variable [Vs.Envs]
attribute [local irreducible] Vs.Fn pun cZ aW dA dB l03 chB rk cd3 chI stp aY
theorem aKi {s:ByteArray}{w:Nat} (h:s.size≤w):(pun s w).length=w:=by rw[←aB2];exact xU (Nat.le_refl _) h
def cmT (fr to:Int) (c:List Int) (s:ByteArray):Int:=jA (fH fr to c) (pun s (to.toNat-fr.toNat))
theorem aE9 (a:List Int) (fr to:Int) (s:ByteArray) (ha:okF fr to a) (hs:s.size≤to.toNat-fr.toNat):Fz F.jS [.agg (cC a),.agg (cFd fr to),.v (.string s)] (.v (.int .i64 (cmT fr to a s))):=by
 have hf:=kZ ha;have h3:=ha;obtain⟨h0,h1,h2,h20⟩:=h3;have PT:=aHp s (to.toNat-fr.toNat) (by omega) hs;have hw:IntKind.i64.wrap (to-fr)=((to.toNat-fr.toNat:Nat):Int):=by rw[aO (by omega) (by omega)];omega
 have CH:=aAF (fH fr to a) (pun s (to.toNat-fr.toNat)) (aAD ha) (by rw[hf,aKi hs]);rw[show jA (fH fr to a) (pun s (to.toNat-fr.toNat))=cmT fr to a s from rfl] at CH;refine fn0 Cd.i_compareText_k fun X=>?_
 repeat' first|simp -dsimp only[go_sem,cC,cFd,fH_E,List.set_cons_zero,List.set_cons_succ,List.length_cons,List.length_nil,hw]|apply Br.mk<;>intro h<;>try simp -dsimp only[h]|refine RgK.mk rfl ?_|refine aA.c (by first|exact PT|exact CH) ?_|refine And.intro (by first|rfl|omega|decide|exact bX ha|exact⟨rfl,bX ha⟩|exact bF ha|exact⟨rfl,bF ha⟩|(refine⟨?_,?_⟩<;>(first|rfl|omega|decide|exact bX ha|exact⟨rfl,bX ha⟩|exact bF ha|exact⟨rfl,bF ha⟩))|(refine⟨?_,?_,?_⟩<;>(first|rfl|omega|decide|exact bX ha|exact⟨rfl,bX ha⟩|exact bF ha|exact⟨rfl,bF ha⟩))|(refine⟨?_,?_,?_,?_⟩<;>(first|rfl|omega|decide|exact bX ha|exact⟨rfl,bX ha⟩|exact bF ha|exact⟨rfl,bF ha⟩))) ?_|fail
 all_goals first|exact⟨_,_,rfl,rfl⟩|simp
end
section
variable [Vs.Envs]
attribute [local irreducible] Vs.Fn pun cmT flt zR cZ aW dA dB l03 chB rk cd3 chI stp aY
def iY (fr to:Int) (s:ByteArray) (c:List Int):Bool:=decide (cmT fr to c s<0)||decide (cmT fr to c s>0)
theorem sel1 (x:List Int) (fr to:Int) (s:ByteArray) (hx:okF fr to x) (hs:s.size≤to.toNat-fr.toNat):Fz F.eY [.agg (cC x),.ro (cFd fr to),.ro [.v (.string s)],.ro [.v (.string s)]] (.v (.bool (iY fr to s x))):=by
 have CT:=aE9 x fr to s hx hs;unfold iY;generalize cmT fr to x s=v at *
 refine fn0 Cd.i_SelectBetween_1_k fun X=>?_
 repeat' first|simp -dsimp only[go_sem,cC,cFd,List.replicate_succ,List.replicate_zero,List.flatten_cons,List.flatten_nil,List.cons_append,List.nil_append,List.set_cons_zero,List.set_cons_succ,List.length_cons,List.length_nil,List.length_set]|apply Br.mk<;>intro h<;>try simp -dsimp only[h]|refine aA.c (by first|exact CT) ?_|refine aC ?_|fail
 all_goals first|exact⟨_,_,rfl,rfl⟩|(rw[h,Bool.false_or];exact⟨_,_,rfl,rfl⟩)
def iU (fr to:Int) (s:ByteArray) (l:List (List Int)):Int:=yO fr to [s,s] [l]
def mJ (fr to:Int) (s:ByteArray) (l:List (List Int)):AV:=if iU fr to s l=0 then .sl 1 (E cC (flt (iY fr to s) l)) else .v (.slice none 0 0)
theorem aGn {fr to:Int}{s:ByteArray}{l:List (List Int)} (h:iU fr to s l=0):aX l=true∧dU fr to (bD l)=true∧((s.size:Int)==W (to-fr))=true∧aW s=true∧bT fr to l=true:=by
 unfold iU yO at h;cases h1:aX l<;>cases h2:dU fr to (bD l)<;>cases h3:((s.size:Int)==W (to-fr))<;>cases h4:aW s<;>cases h5:bT fr to l<;>simp[h1,h2,h3,h4,h5] at h⊢
theorem aCK (l:List (List Int)) (fr to:Int) (s:ByteArray) (hk:bE l) (hz:s.size≤1048576):Fz F.jH [.sl 1 (E cC l),.agg (cFd fr to),.v (.string s),.v (.string s)] (.tup [mJ fr to s l,.v (.int .i64 (iU fr to s l))]):=by
 have CC:=aJu fr to [l] ⟨by simp,fun d hd=>by simp at hd;subst hd;exact hk⟩ [s,s] (by simp) (fun t ht=>by simp at ht;subst ht;exact hz);rw[show yO fr to [s,s] [l]=iU fr to s l from rfl] at CC;by_cases h0:iU fr to s l=0
 ·obtain⟨hd,hf,hsz,hch,hall⟩:=aGn h0;have ho:=fA hd hf;rw[show mJ fr to s l=.sl 1 (E cC (flt (iY fr to s) l)) by simp[mJ,h0],h0];rw[h0] at CC
  have hsn:∀x,x∈l→s.size≤to.toNat-fr.toNat:=fun x hx=>by
   have hz2:((s.size:Int))=W (to-fr):=by simpa using hsz
   obtain⟨f0,f1,f2,f3⟩:=ho x hx;rw[show W (to-fr)=to-fr from aO (by omega) (by omega)] at hz2;omega
  have hd2:=delF (iY fr to s) F.eY [.ro (cFd fr to),.ro [.v (.string s)],.ro [.v (.string s)]] rfl l hk.1 (fun x hx=>sel1 x fr to s (ho x hx) (hsn x hx));refine fn0 Cd.i_SelectBetween_k fun X=>?_
  repeat' first|simp -dsimp only[go_sem,cC,cFd,List.replicate_succ,List.replicate_zero,List.flatten_cons,List.flatten_nil,List.cons_append,List.nil_append,List.set_cons_zero,List.set_cons_succ,List.length_cons,List.length_nil,List.length_set]|apply Br.mk<;>intro h<;>try simp -dsimp only[h]|refine aA.c (by first|exact CC) ?_|refine aC ?_|fail
  refine aA.own (xY l hk.2 hk.1) rfl ?_;simp -dsimp only[go_sem,cC,cFd,List.replicate_succ,List.replicate_zero,List.flatten_cons,List.flatten_nil,List.cons_append,List.nil_append,List.set_cons_zero,List.set_cons_succ,List.length_cons,List.length_nil,List.length_set,List.flatMap_cons,List.flatMap_nil,bA,bN,aZ,List.getD_cons_zero,List.append_nil,List.mem_singleton,List.mem_cons,List.not_mem_nil,or_false,false_or,Vs.Name.t.injEq];refine⟨rfl,aA.borL hd2 rfl ?_⟩;simp -dsimp only[go_sem,cC,cFd,List.replicate_succ,List.replicate_zero,List.flatten_cons,List.flatten_nil,List.cons_append,List.nil_append,List.set_cons_zero,List.set_cons_succ,List.length_cons,List.length_nil,List.length_set,List.flatMap_cons,List.flatMap_nil,bA,bN,aZ,List.getD_cons_zero,List.append_nil,List.mem_singleton,List.mem_cons,List.not_mem_nil,or_false,false_or,Vs.Name.t.injEq];have hr:=aEo (flt (iY fr to s) l) (l.length-(flt (iY fr to s) l).length);have hlen:(flt (iY fr to s) l).length≤l.length:=yJ ..
  simp -dsimp only[go_sem,List.getElem?_cons_zero,List.drop_zero,aG,List.length_append,hr]
  first|exact⟨_,_,rfl,rfl⟩
 ·have e0:(iU fr to s l != 0)=true:=by simp[h0]
  rw[show mJ fr to s l=.v (.slice none 0 0) by simp[mJ,h0]];generalize iU fr to s l=c at *
  refine fn0 Cd.i_SelectBetween_k fun X=>?_
  repeat' first|simp -dsimp only[go_sem,cC,cFd,List.replicate_succ,List.replicate_zero,List.flatten_cons,List.flatten_nil,List.cons_append,List.nil_append,List.set_cons_zero,List.set_cons_succ,List.length_cons,List.length_nil,List.length_set,e0]|apply Br.mk<;>intro h<;>try simp -dsimp only[h]|refine aA.c (by first|exact CC) ?_|refine aC ?_|fail
  all_goals first|exact⟨_,_,rfl,rfl⟩
theorem aAV (l:List (List Int)) (fr to:Int) (s:ByteArray) (hk:bE l) (hz:s.size≤1048576):Fz F.lI [.sl 1 (E cC l),.agg (cFd fr to),.v (.string s)] (.tup [mJ fr to s l,.v (.int .i64 (iU fr to s l))]):=by
 have SB:=aCK l fr to s hk hz;have hv:mJ fr to s l=.sl 1 (E cC (flt (iY fr to s) l))∨mJ fr to s l=.v (.slice none 0 0):=by unfold mJ;split<;>simp
 generalize iU fr to s l=c at *
 rcases hv with hv|hv<;>rw[hv] at SB⊢
 all_goals
  refine fn0 Cd.i_SelectEqual_k fun X=>?_
  repeat' first|simp -dsimp only[go_sem,cC,cFd,List.replicate_succ,List.replicate_zero,List.flatten_cons,List.flatten_nil,List.cons_append,List.nil_append,List.set_cons_zero,List.set_cons_succ,List.length_cons,List.length_nil,List.length_set]|apply Br.mk<;>intro h<;>try simp -dsimp only[h]|refine aA.c (by first|exact SB) ?_|refine aC ?_|fail
  all_goals first|exact⟨_,_,rfl,rfl⟩
end
section
variable [Vs.Envs]
attribute [local irreducible] Vs.Fn pun cmT flt zR cZ aW dA dB l03 chB rk cd3 chI stp aY
end
section
variable [Vs.Envs]
attribute [local irreducible] Vs.Fn pun cmT zR cZ aW dA dB l03 chB rk cd3 chI stp aY
theorem aFD {l:List (List Int)}{fr to:Int} (hd:aX l=true) (hn:uY fr to (bD l)=true):∀c,c∈l→okP fr to c:=by
 intro c hc;unfold uY at hn;rw[Bool.and_eq_true] at hn;obtain⟨h0,h1,h2,h3⟩:=fA hd hn.1 c hc;have hw:=hn.2;rw[show W (to-fr)=to-fr from aO (by omega) (by omega)] at hw;simp only[aX,Bool.and_eq_true,List.all_eq_true,decide_eq_true_eq] at hd;obtain⟨hcb,hcl⟩:=hd.1 c hc;simp only[gF,inB,Bool.and_eq_true,List.all_eq_true,decide_eq_true_eq] at hcb;exact⟨h0,h1,h2,by simpa using hw,h3,fun y hy=>hcb.1 y hy⟩
theorem aEg {fr to:Int}{l:List (List Int)} (ho:∀c,c∈l→okF fr to c) (hl:l.length≤40):∀c,c∈iJ fr to l→c∈l:=by
 intro c hc;obtain⟨i,hi,rfl⟩:=List.mem_map.1 hc;exact mU (aDL ho hl i hi)
theorem aEh (fr to:Int) (l:List (List Int)):(iJ fr to l).length=l.length:=by unfold iJ;rw[List.length_map,wQ]
end
section
variable [Vs.Envs]
attribute [local irreducible] Vs.Fn cZ aW dA dB l03 chB rk cd3 chI stp aY
attribute [local go_sem] cFd aG List.replicate_succ List.replicate_zero List.flatten_cons List.flatten_nil List.cons_append List.nil_append List.set_cons_zero List.set_cons_succ List.length_cons List.length_nil List.length_set in
theorem aDW (l:List (List Int)) (hk:bE l):Fz F.nX [.sl 1 (E cC l)] (.sl 1 (E cC l)):=by
 refine fn0 Cd.s_l02Copy_k fun X=>?_
 repeat' first|simp -dsimp only[go_sem,cC]|apply Br.mk<;>intro h<;>try simp -dsimp only[h]|refine aC ?_|fail
 refine aN.at dM (X:={zz:Nat×(Unit) // zz.1≤l.length∧True}) (fun zz=>[(3,.loc (.t 3 0) 0 zz.1.1),(4,.v (.int .i64 zz.1.1))]) (fun zz=>[(.t 3 0,.arr 1 (E cC (l.take zz.1.1)) false)]) (fun zz=>l.length-zz.1.1) ⟨(0,()),by omega,trivial⟩ ?_ ?_
 ·simp[Vs.LeL,Vs.look,Vs.aB,Vs.aP,Vs.aK,Vs.hset,Vs.aL,Vs.E]
 ·rintro⟨⟨i,_⟩,hi,hg⟩;dsimp only at hi hg;simp -dsimp only[go_sem,cC];refine Br.mk (fun hc=>?_) fun hc=>?_
  ·have hlt:i<l.length:=Dq;have hw:=aH hlt (hk.1);have hm:(E cC l).getD i []=[.sl 1 (E cI l[i])]:=aT hlt;have NC:=vD l[i] (hk.2 _ (List.getElem_mem hlt));have hap:E cC (l.take i)++[[.sl 1 (E cI l[i])]]=E cC (l.take (i+1)):=by rw[bK hlt,aR];rfl
   have hal:(E cC (l.take i)).length=i:=by rw[aG];simp;omega
   have hl:=hk.1
   repeat' first|simp -dsimp only[go_sem,hm,hw,hap,hal,cC]|apply Br.mk<;>intro h<;>try simp -dsimp only[h]|refine aA.c (by first|exact NC) ?_|refine aC ?_|fail
   all_goals first|omega|(exact nx (i+1,()) trivial (h2:=by simp[Vs.LeL,Vs.look,Vs.aB,Vs.aP,Vs.aK,Vs.hset,Vs.aL,hap]))
  ·have hge:i=l.length:=by
    have:¬i<l.length:=Dq;omega
   subst hge;simp -dsimp only[go_sem,cC]
   have htk:(E cC (l.take l.length)).take l.length=E cC l:=by
    rw[List.take_of_length_le (Nat.le_refl l.length)];exact List.take_of_length_le (by rw[aG];exact Nat.le_refl _)
   first|exact⟨⟨_,_,rfl,rfl⟩,fun h=>h rfl⟩|(rw[htk];exact⟨⟨_,_,rfl,rfl⟩,fun h=>h rfl⟩)|(simp[htk];done)
end
section
variable [Vs.Envs]
attribute [local irreducible] Vs.Fn cZ aW dA dB l03 chB rk cd3 chI stp aY stb oU mgK mgI skp iT stF bH kG
theorem aDp {l:List (List Int)}{i:Nat} (h:i<l.length):(E cC l).getD i []=[.sl 1 (E cI (l.getD i []))]:=by rw[aT h];simp[cC,List.getD,h]
theorem aET {fr to:Int}{l:List (List Int)}{i:Nat} (h:i<l.length):(E cSt (bQ fr to l)).getD i []=[.v (.string (txt (fH fr to (l.getD i []))))]:=by
 rw[aT (by simpa[bQ] using h)];simp[cSt,bQ,List.getD,h]
theorem aBG {l:List (List Int)}{i:Nat} (h:i<l.length):l.getD i []∈l:=by rw[show l.getD i []=l[i] by simp[List.getD,h]];exact List.getElem_mem h
theorem aGa (G:Int→List Int) (p:List Int) (x:Int):E cC (p.map G)++[[.sl 1 (E cI (G x))]]=E cC ((p++[x]).map G):=by rw[List.map_append,aR];rfl
attribute [local go_sem] cFd cD List.replicate_succ List.replicate_zero List.flatten_cons List.flatten_nil List.cons_append List.nil_append List.set_cons_zero List.set_cons_succ List.length_cons List.length_nil List.length_set aG in
theorem aCe (a b:List (List Int)) (fr to:Int) (ha:bE a) (hb:bE b) (oa:∀c,c∈a→okF fr to c) (ob:∀c,c∈b→okF fr to c) (ca:bT fr to a=true) (cb:bT fr to b=true) (h40:a.length+b.length≤40) :
  Fz F.qR [.sl 1 (E cC a),.sl 1 (E cC b),.sl 1 (E cSt (bQ fr to a)),.sl 1 (E cSt (bQ fr to b))] (.sl 1 (E cC ((mgF (cfO fr to (a++b)) a.length b.length).map fun i=>(a++b).getD i.toNat []))):=by
 have hkl:=tX fr to a;have hkm:=tX fr to b
 have hcmp:∀i k:Nat,i<a.length→k<b.length→Fz F.fJ [.v (.string (txt (fH fr to (b.getD k [])))),.v (.string (txt (fH fr to (a.getD i []))))] (.v (.int .i64 (cfO fr to (a++b) ((a.length+k:Nat):Int) (i:Int)))):=by
  intro i k hi hk
  have e:cfO fr to (a++b) ((a.length+k:Nat):Int) (i:Int)=jA (fH fr to (b.getD k [])) (fH fr to (a.getD i [])):=by
   unfold cfO;rw[Int.toNat_natCast,Int.toNat_natCast,aG5 hi,aG4];rfl
  rw[e];have m1:=aBG hi;have m2:=aBG hk;exact vC _ _ (aAD (ob _ m2)) ((kZ (ob _ m2)).trans (kZ (oa _ m1)).symm) (List.all_eq_true.1 cb _ m2) (List.all_eq_true.1 ca _ m1)
 have gA:∀i:Nat,i<a.length→(fun i:Int=>(a++b).getD i.toNat []) (i:Int)=a.getD i []:=fun i hi=>by show(a++b).getD (i:Int).toNat []=_;rw[Int.toNat_natCast,aG5 hi]
 have gB:∀j:Nat,(fun i:Int=>(a++b).getD i.toNat []) ((a.length+j:Nat):Int)=b.getD j []:=fun j=>by show(a++b).getD ((a.length+j:Nat):Int).toNat []=_;rw[Int.toNat_natCast,aG4]
 have hdr:∀k,k≤b.length→(rng (a.length+k) (b.length-k)).map (fun i=>(a++b).getD i.toNat [])=b.drop k:=by
  intro k hk;apply List.ext_getElem
  ·simp[xS]
  ·intro j h1 h2;simp only[List.length_map,xS] at h1;simp only[rng,List.getElem_map,List.getElem_range',List.getElem_drop,Nat.one_mul];have g2:=gB (k+j);simp only at g2;rw[show a.length+k+j=a.length+(k+j) by omega,g2];simp[List.getD,(by omega:k+j<b.length)]
 generalize(fun i:Int=>(a++b).getD i.toNat [])=G at *
 generalize cfO fr to (a++b)=cf at *
 refine fn0 Cd.s_l09Merge_k fun X=>?_
 repeat' first|simp -dsimp only[go_sem,cC,hkl,hkm]|apply Br.mk<;>intro h<;>try simp -dsimp only[h]|refine aC ?_|fail
 refine aN.at dM (X:={zz:Nat×(Unit) // zz.1≤a.length∧True}) (fun zz=>[(9,.loc (.t 9 0) 0 (mgI cf a.length b.length zz.1.1).length),(10,.v (.int .i64 (mgK cf a.length b.length zz.1.1:Nat))),(11,.v (.int .i64 zz.1.1))]) (fun zz=>[(.t 9 0,.arr 1 (E cC ((mgI cf a.length b.length zz.1.1).map G)) false)]) (fun zz=>a.length-zz.1.1) ⟨(0,()),by omega,trivial⟩ ?_ ?_
 ·simp[Vs.LeL,Vs.look,Vs.aB,Vs.aP,Vs.aK,Vs.hset,Vs.aL,Vs.E,mgI,mgK]
 ·rintro⟨⟨i,_⟩,hi,hg⟩;dsimp only at hi hg;simp -dsimp only[go_sem,cC,hkl,hkm];refine Br.mk (fun hc=>?_) fun hc=>?_
  ·have hlt:i<a.length:=Dq;have hw:=aH hlt (by omega);have hki:=u6 cf a.length b.length i;have hki1:=u6 cf a.length b.length (i+1);have hkg:=aDN cf a.length b.length i;have hli:=aBE cf a.length b.length i;have hli1:=aBE cf a.length b.length (i+1);have hs0:skp cf a.length i (b.length-mgK cf a.length b.length i) (mgK cf a.length b.length i)=mgK cf a.length b.length (i+1):=by rw[mgK]
   have hmI:mgI cf a.length b.length (i+1)=mgI cf a.length b.length i++rng (a.length+mgK cf a.length b.length i) (mgK cf a.length b.length (i+1)-mgK cf a.length b.length i)++[(i:Int)]:=by rw[mgI]
   have hga:=gA i hlt;have xa:=aET (fr:=fr) (to:=to) hlt;have xc:=aDp hlt;have hc20:(a.getD i []).length≤20:=(oa _ (aBG hlt)).2.2.2;have NA:=vD (a.getD i []) (by omega);generalize hK:mgK cf a.length b.length i=k0 at *
   generalize hK1:mgK cf a.length b.length (i+1)=k1 at *
   generalize hO:mgI cf a.length b.length i=o at *
   generalize hO1:mgI cf a.length b.length (i+1)=o1 at *
   simp -dsimp only[go_sem,hw,cC,hkl,hkm];refine aN.at dM (X:={k:Nat // k0≤k∧k≤b.length∧skp cf a.length i (b.length-k) k=k1}) (fun k=>[(9,.loc (.t 9 0) 0 (o.length+(k.1-k0))),(10,.v (.int .i64 (k.1:Nat))),(16,.junk)]) (fun k=>[(.t 9 0,.arr 1 (E cC ((o++rng (a.length+k0) (k.1-k0)).map G)) false)]) (fun k=>b.length-k.1) ⟨k0,Nat.le_refl _,hki,hs0⟩ ?_ ?_
   ·simp[Vs.LeL,Vs.look,Vs.aB,Vs.aP,Vs.aK,Vs.hset,Vs.aL,Nat.sub_self,aIv]
   ·rintro⟨k,hk0,hkb,hks⟩
    try dsimp only at hk0 hkb hks
    by_cases hlk:k<b.length
    ·have e1:decide ((k:Int)<(b.length:Int))=true:=by simp;omega
     have w1:IntKind.i64.wrap ((k:Int)+1)=((k+1:Nat):Int):=by rw[aO (by omega) (by omega)];omega
     rw[aIm hlk] at hks;have yb:=aET (fr:=fr) (to:=to) hlk;have yc:=aDp hlk;have HC:=hcmp i k hlt hlk;have hgb:=gB k;have hb20:(b.getD k []).length≤20:=(ob _ (aBG hlk)).2.2.2;have NB:=vD (b.getD k []) (by omega);by_cases hneg:cf ((a.length+k:Nat):Int) (i:Int)<0
     ·have e2:decide (cf ((a.length+k:Nat):Int) (i:Int)<0)=true:=decide_eq_true hneg;rw[if_pos hneg] at hks
      have hap:E cC ((o++rng (a.length+k0) (k-k0)).map G)++[[.sl 1 (E cI (b.getD k []))]]=E cC ((o++rng (a.length+k0) (k+1-k0)).map G):=by
       rw[show k+1-k0=(k-k0)+1 by omega,aEq,show a.length+k0+(k-k0)=a.length+k by omega,←List.append_assoc,←aGa,hgb]
      have hal:(E cC ((o++rng (a.length+k0) (k-k0)).map G)).length=o.length+(k-k0):=by rw[aG];simp[xS]
      have hsum:o.length+(k-k0)+1=o.length+(k+1-k0):=by omega
      repeat' first|simp -dsimp only[go_sem,e1,e2,w1,yb,yc,xa,xc,hap,hal,cC,hkl,hkm]|apply Br.mk<;>intro h<;>try simp -dsimp only[h]|refine aA.c (by first|exact HC|exact NB) ?_|refine aC ?_|fail
      all_goals first|omega|(refine⟨⟨k+1,by omega,by omega,hks⟩,?_,by simp only;omega⟩;simp[Vs.LeL,Vs.look,Vs.aB,Vs.aP,Vs.aK,Vs.hset,Vs.aL,hsum])
     ·have e2:decide (cf ((a.length+k:Nat):Int) (i:Int)<0)=false:=decide_eq_false hneg;rw[if_neg hneg] at hks;subst hks
      have hap:E cC ((o++rng (a.length+k0) (k-k0)).map G)++[[.sl 1 (E cI (a.getD i []))]]=E cC (o1.map G):=by
       rw[hmI,←aGa,hga]
      have hal:(E cC ((o++rng (a.length+k0) (k-k0)).map G)).length=o.length+(k-k0):=by rw[aG];simp[xS]
      have hsum:o.length+(k-k0)+1=o1.length:=by omega
      repeat' first|simp -dsimp only[go_sem,e1,e2,w1,yb,yc,xa,xc,hap,hal,hw,hsum,cC,hkl,hkm]|apply Br.mk<;>intro h<;>try simp -dsimp only[h]|refine aA.c (by first|exact HC|exact NA) ?_|refine And.intro ?_ (fun h=>absurd rfl h)|refine And.intro ?_ (fun h=>absurd rfl h)|refine aC ?_|fail
      all_goals first|omega|(exact⟨⟨(i+1,()),by omega,trivial⟩,by simp[Vs.LeL,Vs.look,Vs.aB,Vs.aP,Vs.aK,Vs.hset,Vs.aL,hsum,hO1,hK1],by simp only;omega⟩)
    ·obtain rfl:k=b.length:=by omega
     have e1:decide ((b.length:Int)<(b.length:Int))=false:=by simp
     rw[aIl (by omega)] at hks;subst hks
     have hap:E cC ((o++rng (a.length+k0) (b.length-k0)).map G)++[[.sl 1 (E cI (a.getD i []))]]=E cC (o1.map G):=by
      rw[hmI,←aGa,hga]
     have hal:(E cC ((o++rng (a.length+k0) (b.length-k0)).map G)).length=o.length+(b.length-k0):=by rw[aG];simp[xS]
     have hsum:o.length+(b.length-k0)+1=o1.length:=by omega
     repeat' first|simp -dsimp only[go_sem,e1,xa,xc,hap,hal,hw,hsum,cC,hkl,hkm]|apply Br.mk<;>intro h<;>try simp -dsimp only[h]|refine aA.c (by first|exact NA) ?_|refine And.intro ?_ (fun h=>absurd rfl h)|refine And.intro ?_ (fun h=>absurd rfl h)|refine aC ?_|fail
     all_goals first|omega|(exact⟨⟨(i+1,()),by omega,trivial⟩,by simp[Vs.LeL,Vs.look,Vs.aB,Vs.aP,Vs.aK,Vs.hset,Vs.aL,hsum,hO1,hK1],by simp only;omega⟩)
  ·have hge:i=a.length:=by
    have:¬i<a.length:=Dq;omega
   subst hge;simp -dsimp only[go_sem,cC,hkl,hkm];have hka:=u6 cf a.length b.length a.length;have hli:=aBE cf a.length b.length a.length;have hd2:=hdr _ hka
   have hfin:E cC ((mgI cf a.length b.length a.length).map G)++E cC (b.drop (mgK cf a.length b.length a.length))=E cC ((mgF cf a.length b.length).map G):=by
    rw[←hd2,←aR,←List.map_append];rfl
   have hfl:=aKs cf a.length b.length;have hdE:(E cC b).drop (mgK cf a.length b.length a.length)=E cC (b.drop (mgK cf a.length b.length a.length)):=by simp[E,List.map_drop]
   have hdl:(b.drop (mgK cf a.length b.length a.length)).length=b.length-mgK cf a.length b.length a.length:=by simp
   have CP:=aDW (b.drop (mgK cf a.length b.length a.length)) ⟨by omega,fun c hc=>by have:=(ob c (List.mem_of_mem_drop hc)).2.2.2;omega⟩;have hal:(E cC ((mgI cf a.length b.length a.length).map G)).length=(mgI cf a.length b.length a.length).length:=by rw[aG];simp
   have hsum:(mgI cf a.length b.length a.length).length+(b.length-mgK cf a.length b.length a.length)=a.length+b.length:=by omega
   have htk:(E cC ((mgF cf a.length b.length).map G)).take (a.length+b.length)=E cC ((mgF cf a.length b.length).map G):=List.take_of_length_le (by rw[aG,List.length_map];omega);generalize mgF cf a.length b.length=mf at *
   generalize mgK cf a.length b.length a.length=k at *
   generalize mgI cf a.length b.length a.length=o at *
   refine⟨?_,fun h=>h rfl⟩
   repeat' first|simp -dsimp only[go_sem,hdE,hdl,hal,hfin,hsum,htk,cC,hkl,hkm]|apply Br.mk<;>intro h<;>try simp -dsimp only[h]|refine aA.c (by first|exact CP) ?_|refine aC ?_|fail
   all_goals first|omega|exact⟨_,_,rfl,rfl⟩
end
end Go.Proofs.YtonkjfiffcfaoaaGreat
