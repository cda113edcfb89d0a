/- The sum of a field: the program's way. -/
import Derived.Test.YthfnpdhpefialaaGreatYwSm
import Derived.Test.YthfnpdhpefialaaGreatYwSh
import Derived.Test.YthfnpdhpefialaaGreatYwC
set_option linter.all false
set_option maxHeartbeats 8000000
namespace Go.Proofs.YthfnpdhpefialaaGreat
open Go.Vs
section
variable [Vs.Envs]
attribute [local irreducible] Vs.Fn chOK areCh chTo chAt l03 chB rk cd3 chI stb ordL
theorem stpTo_nil {fr to:Int}{l:List (List Int)}:∀n,stpTo fr to l n=[]→∀i,i<n→¬cmF fr to (l.getD (i+1) []) (l.getD i [])<0
 |0,_,i,hi=>by omega
 | n+1,h,i,hi=>by
  rw[stpTo] at h
  obtain⟨h1,h2⟩:=List.append_eq_nil_iff.1 h
  by_cases hin:i=n
  ·subst hin
   intro hc
   rw[if_pos hc] at h2;cases h2
  ·exact stpTo_nil n h1 i (by omega)
theorem asc_le {fr to:Int}{l:List (List Int)} (h:ascB fr to l=true):∀i,i+1<l.length→¬cmF fr to (l.getD (i+1) []) (l.getD i [])<0:=by
 intro i hi
 have h0:stp fr to l=[]:=by
  unfold ascB at h
  have:=beq_iff_eq.1 h
  exact List.eq_nil_of_length_eq_zero (by omega)
 exact stpTo_nil (l.length-1) h0 i (by omega)
def skp (cf:Int→Int→Int) (na:Nat) (i:Nat):Nat→Nat→Nat
 |0,k=>k
 |m+1,k=>if cf ((na+k:Nat):Int) (i:Int)<0 then skp cf na i m (k+1) else k
def mgK (cf:Int→Int→Int) (na nb:Nat):Nat→Nat
 |0=>0
 |i+1=>skp cf na i (nb-mgK cf na nb i) (mgK cf na nb i)
def rng (a n:Nat):List Int:=(List.range' a n).map fun j:Nat=>(j:Int)
def mgI (cf:Int→Int→Int) (na nb:Nat):Nat→List Int
 |0=>[]
 |i+1=>mgI cf na nb i++rng (na+mgK cf na nb i) (mgK cf na nb (i+1)-mgK cf na nb i)++[(i:Int)]
def mgF (cf:Int→Int→Int) (na nb:Nat):List Int:=mgI cf na nb na++rng (na+mgK cf na nb na) (nb-mgK cf na nb na)
theorem rng_zero (a:Nat):rng a 0=[]:=rfl
theorem rng_succ (a n:Nat):rng a (n+1)=rng a n++[((a+n:Nat):Int)]:=by
 simp[rng,List.range'_concat]
theorem rng_len (a n:Nat):(rng a n).length=n:=by simp[rng]
theorem rng_mem {a n:Nat}{x:Int} (h:x∈rng a n):∃j,a≤j∧j<a+n∧x=(j:Int):=by
 obtain⟨j,hj,rfl⟩:=List.mem_map.1 h
 obtain⟨h1,h2⟩:=List.mem_range'_1.1 hj
 exact⟨j,h1,h2,rfl⟩
theorem rng_app (a m n:Nat):rng a m++rng (a+m) n=rng a (m+n):=by
 simp[rng,←List.map_append,List.range'_append]
theorem skp_step {cf:Int→Int→Int}{na i nb k:Nat} (h:k<nb):skp cf na i (nb-k) k=if cf ((na+k:Nat):Int) (i:Int)<0 then skp cf na i (nb-(k+1)) (k+1) else k:=by
 rw[show nb-k=(nb-(k+1))+1 by omega,skp]
theorem skp_stop {cf:Int→Int→Int}{na i nb k:Nat} (h:¬k<nb):skp cf na i (nb-k) k=k:=by
 rw[show nb-k=0 by omega,skp]
theorem skp_ge (cf:Int→Int→Int) (na i:Nat):∀m k,k≤skp cf na i m k∧skp cf na i m k≤k+m
 |0,k=>by simp[skp]
 | m+1,k=>by
  rw[skp]
  split
  ·have:=skp_ge cf na i m (k+1);omega
  ·omega
theorem skp_lt (cf:Int→Int→Int) (na i:Nat):∀m k j,k≤j→j<skp cf na i m k→cf ((na+j:Nat):Int) (i:Int)<0
 |0,k,j,h1,h2=>by rw[skp] at h2;omega
 | m+1,k,j,h1,h2=>by
  rw[skp] at h2
  split at h2
  ·rename_i hc
   by_cases hj:j=k
   ·subst hj;exact hc
   ·exact skp_lt cf na i m (k+1) j (by omega) h2
  ·omega
theorem skp_at (cf:Int→Int→Int) (na i:Nat):∀m k,skp cf na i m k<k+m→¬cf ((na+skp cf na i m k:Nat):Int) (i:Int)<0
 |0,k,h=>by rw[skp] at h;omega
 | m+1,k,h=>by
  rw[skp] at h⊢
  split at h
  ·rename_i hc
   rw[if_pos hc]
   exact skp_at cf na i m (k+1) (by omega)
  ·rename_i hc
   rw[if_neg hc];exact hc
theorem mgK_le (cf:Int→Int→Int) (na nb:Nat):∀i,mgK cf na nb i≤nb
 |0=>Nat.zero_le _
 | i+1=>by
  have h:=mgK_le cf na nb i
  have:=skp_ge cf na i (nb-mgK cf na nb i) (mgK cf na nb i)
  rw[mgK];omega
theorem mgK_ge (cf:Int→Int→Int) (na nb i:Nat):mgK cf na nb i≤mgK cf na nb (i+1):=by
 rw[mgK];exact(skp_ge cf na i _ _).1
theorem mgI_len (cf:Int→Int→Int) (na nb:Nat):∀i,(mgI cf na nb i).length=i+mgK cf na nb i
 |0=>rfl
 | i+1=>by
  have:=mgI_len cf na nb i
  have h2:=mgK_ge cf na nb i
  rw[mgI]
  simp only[List.length_append,List.length_singleton,rng_len,this]
  omega
theorem mgI_perm (cf:Int→Int→Int) (na nb:Nat):∀i,(mgI cf na nb i).Perm (rng 0 i++rng na (mgK cf na nb i))
 |0=>by simp[mgI,mgK,rng]
 | i+1=>by
  have ih:=mgI_perm cf na nb i
  have h2:=mgK_ge cf na nb i
  rw[mgI,rng_succ]
  have e:rng na (mgK cf na nb (i+1))=rng na (mgK cf na nb i)++rng (na+mgK cf na nb i) (mgK cf na nb (i+1)-mgK cf na nb i):=by
   rw[rng_app];congr 1;omega
  rw[e]
  generalize rng (na+mgK cf na nb i) (mgK cf na nb (i+1)-mgK cf na nb i)=r at *
  generalize rng na (mgK cf na nb i)=q at *
  generalize rng 0 i=p at *
  generalize mgI cf na nb i=o at *
  rw[Nat.zero_add]
  calc o++r++[(i:Int)] |>.Perm (p++q++r++[(i:Int)]):=List.Perm.append_right _ (List.Perm.append_right _ ih)
   _ |>.Perm (p++((q++r)++[(i:Int)])):=by rw[List.append_assoc,List.append_assoc,List.append_assoc]
   _ |>.Perm (p++([(i:Int)]++(q++r))):=List.Perm.append_left _ List.perm_append_comm
   _ |>.Perm (p++[(i:Int)]++(q++r)):=by rw[List.append_assoc]
theorem iota_rng (n:Nat):iota n=rng 0 n:=by simp[iota,rng,List.range_eq_range']
theorem mgF_perm (cf:Int→Int→Int) (na nb:Nat):(mgF cf na nb).Perm (iota (na+nb)):=by
 have h1:=mgI_perm cf na nb na
 have h2:=mgK_le cf na nb na
 unfold mgF
 rw[iota_rng]
 have e:rng 0 (na+nb)=rng 0 na++rng na (mgK cf na nb na)++rng (na+mgK cf na nb na) (nb-mgK cf na nb na):=by
  have e1:=rng_app 0 na (mgK cf na nb na)
  have e2:=rng_app 0 (na+mgK cf na nb na) (nb-mgK cf na nb na)
  rw[Nat.zero_add] at e1 e2
  rw[e1,e2];congr 1;omega
 rw[e]
 exact List.Perm.append_right _ h1
theorem mgF_len (cf:Int→Int→Int) (na nb:Nat):(mgF cf na nb).length=na+nb:=by rw[(mgF_perm cf na nb).length_eq,iota_len]
section
variable {cf:Int→Int→Int}{R:Int→Int→Prop}{na nb:Nat} (htr:∀x y z,R x y→R y z→R x z)
 (hlt:∀i j:Nat,i<na→j<nb→cf ((na+j:Nat):Int) (i:Int)<0→R ((na+j:Nat):Int) (i:Int))
 (hge:∀i j:Nat,i<na→j<nb→¬cf ((na+j:Nat):Int) (i:Int)<0→R (i:Int) ((na+j:Nat):Int))
 (hA:∀i j:Nat,i<j→j<na→R (i:Int) (j:Int)) (hB:∀i j:Nat,i<j→j<nb→R ((na+i:Nat):Int) ((na+j:Nat):Int))
include htr hlt hge hA hB
theorem mgI_srt:∀i,i≤na→(mgI cf na nb i).Pairwise R∧(∀x,x∈mgI cf na nb i→∀j:Nat,i≤j→j<na→R x (j:Int))∧(∀x,x∈mgI cf na nb i→∀j:Nat,mgK cf na nb i≤j→j<nb→R x ((na+j:Nat):Int))
 |0,_=>⟨List.Pairwise.nil,fun x hx=>(by cases hx),fun x hx=>(by cases hx)⟩
 | i+1,hi=>by
  obtain⟨h1,h2,h3⟩:=mgI_srt i (by omega)
  have hk:=mgK_ge cf na nb i
  have hk2:=mgK_le cf na nb (i+1)
  have hk1:=mgK_le cf na nb i
  have hsl:∀j,mgK cf na nb i≤j→j<mgK cf na nb (i+1)→cf ((na+j:Nat):Int) (i:Int)<0:=fun j a b=>skp_lt cf na i _ _ j a (by rw[mgK] at b;exact b)
  have hst:mgK cf na nb (i+1)<nb→¬cf ((na+mgK cf na nb (i+1):Nat):Int) (i:Int)<0:=fun h=>by
   have:=skp_at cf na i (nb-mgK cf na nb i) (mgK cf na nb i)
   rw[mgK] at h⊢
   exact this (by omega)
  rw[mgI]
  generalize hK:mgK cf na nb i=k at *
  generalize hK2:mgK cf na nb (i+1)=k' at *
  have hr:∀x,x∈rng (na+k) (k'-k)→∃j,k≤j∧j<k'∧x=((na+j:Nat):Int):=fun x hx=>by
   obtain⟨j,a,b,rfl⟩:=rng_mem hx
   exact⟨j-na,by omega,by omega,by congr 1;omega⟩
  have hri:∀x,x∈rng (na+k) (k'-k)→R x (i:Int):=fun x hx=>by
   obtain⟨j,a,b,rfl⟩:=hr x hx
   exact hlt i j (by omega) (by omega) (hsl j a b)
  have hii:∀j:Nat,i<j→j<na→R (i:Int) (j:Int):=fun j a b=>hA i j a b
  have hib:∀j:Nat,k'≤j→j<nb→R (i:Int) ((na+j:Nat):Int):=fun j a b=>by
   have h0:=hge i k' (by omega) (by omega) (hst (by omega))
   by_cases hj:j=k'
   ·subst hj;exact h0
   ·exact htr _ _ _ h0 (hB k' j (by omega) b)
  have hoi:∀x,x∈mgI cf na nb i→R x (i:Int):=fun x hx=>h2 x hx i (Nat.le_refl _) (by omega)
  have hor:∀x,x∈mgI cf na nb i→∀y,y∈rng (na+k) (k'-k)→R x y:=fun x hx y hy=>by
   obtain⟨j,a,b,rfl⟩:=hr y hy
   exact h3 x hx j a (by omega)
  refine⟨?_,?_,?_⟩
  ·rw[List.pairwise_append,List.pairwise_append]
   refine⟨⟨h1,?_,hor⟩,List.pairwise_singleton _ _,fun x hx y hy=>?_⟩
   ·unfold rng
    rw[List.pairwise_map]
    refine List.Pairwise.imp_of_mem (R:=fun a b=>a<b) ?_ List.pairwise_lt_range'
    intro a b ha hb hab
    obtain⟨a1,a2⟩:=List.mem_range'_1.1 ha
    obtain⟨b1,b2⟩:=List.mem_range'_1.1 hb
    have:=hB (a-na) (b-na) (by omega) (by omega)
    rwa [show na+(a-na)=a by omega,show na+(b-na)=b by omega] at this
   ·rw[List.mem_singleton] at hy
    subst hy
    rcases List.mem_append.1 hx with hx|hx
    ·exact hoi x hx
    ·exact hri x hx
  ·intro x hx j a b
   rcases List.mem_append.1 hx with hx|hx
   ·rcases List.mem_append.1 hx with hx|hx
    ·exact h2 x hx j (by omega) b
    ·exact htr _ _ _ (hri x hx) (hii j (by omega) b)
   ·rw[List.mem_singleton] at hx
    subst hx;exact hii j (by omega) b
  ·intro x hx j a b
   rcases List.mem_append.1 hx with hx|hx
   ·rcases List.mem_append.1 hx with hx|hx
    ·exact h3 x hx j (by omega) b
    ·obtain⟨j',a',b',rfl⟩:=hr x hx
     exact hB j' j (by omega) b
   ·rw[List.mem_singleton] at hx
    subst hx;exact hib j a b
theorem mgF_srt:(mgF cf na nb).Pairwise R:=by
 obtain⟨h1,h2,h3⟩:=mgI_srt htr hlt hge hA hB na (Nat.le_refl _)
 unfold mgF
 rw[List.pairwise_append]
 refine⟨h1,?_,fun x hx y hy=>?_⟩
 ·unfold rng
  rw[List.pairwise_map]
  refine List.Pairwise.imp_of_mem (R:=fun a b=>a<b) ?_ List.pairwise_lt_range'
  intro a b ha hb hab
  obtain⟨a1,a2⟩:=List.mem_range'_1.1 ha
  obtain⟨b1,b2⟩:=List.mem_range'_1.1 hb
  have hk:=mgK_le cf na nb na
  have:=hB (a-na) (b-na) (by omega) (by omega)
  rwa [show na+(a-na)=a by omega,show na+(b-na)=b by omega] at this
 ·obtain⟨j,a,b,rfl⟩:=rng_mem hy
  have hk:=mgK_le cf na nb na
  have:=h3 x hx (j-na) (by omega) (by omega)
  rwa [show na+(j-na)=j by omega] at this
end
theorem pw_nat {R:Nat→Nat→Prop} (htr:∀x y z,R x y→R y z→R x z) {n:Nat} (h:∀i,i+1<n→R i (i+1)):∀i j,i<j→j<n→R i j:=by
 intro i j hij hj
 obtain⟨d,rfl⟩:∃d,j=i+1+d:=⟨j-(i+1),by omega⟩
 induction d with
 |zero=>exact h i hj
 |succ d ih=>exact htr _ _ _ (ih (by omega) (by omega)) (h (i+1+d) hj)
theorem app_l {a b:List (List Int)}{i:Nat} (h:i<a.length):(a++b).getD i []=a.getD i []:=by simp[List.getD,List.getElem?_append_left h]
theorem app_r {a b:List (List Int)} (j:Nat):(a++b).getD (a.length+j) []=b.getD j []:=by
 simp only[List.getD]
 rw[List.getElem?_append_right (by omega),Nat.add_sub_cancel_left]
theorem mg_ord {fr to:Int}{a b:List (List Int)} (ho:∀c,c∈a++b→okF fr to c) (hl:a.length+b.length≤40) (ha:ascB fr to a=true) (hb:ascB fr to b=true) :
  mgF (cfO fr to (a++b)) a.length b.length=ordL fr to (a++b):=by
 have hlen:(a++b).length=a.length+b.length:=by simp
 obtain⟨h1,h2⟩:=ordL_srt ho (by omega)
 rw[hlen] at h1
 have hin:∀i:Nat,i<a.length+b.length→inO (a++b).length (i:Int):=fun i hi=>⟨by omega,by omega⟩
 have hst:∀i j:Nat,i<j→j<a.length+b.length→¬cfO fr to (a++b) (j:Int) (i:Int)<0→ordR fr to (a++b) (i:Int) (j:Int):=by
  intro i j hij hj hc
  have e:=cf_anti ho (hin i (by omega)) (hin j hj)
  refine⟨⟨hin i (by omega),hin j hj⟩,?_⟩
  by_cases h0:cfO fr to (a++b) (i:Int) (j:Int)=0
  ·exact .inr ⟨h0,by omega⟩
  ·exact .inl (by omega)
 have hA:∀i j:Nat,i<j→j<a.length→ordR fr to (a++b) (i:Int) (j:Int):=by
  refine pw_nat (R:=fun i j=>ordR fr to (a++b) (i:Int) (j:Int)) (fun x y z=>ordR_trans ho _ _ _) fun i hi=>?_
  refine hst i (i+1) (by omega) (by omega) ?_
  have:=asc_le ha i hi
  unfold cfO
  rw[Int.toNat_natCast,Int.toNat_natCast,app_l hi,app_l (by omega)]
  exact this
 have hB:∀i j:Nat,i<j→j<b.length→ordR fr to (a++b) ((a.length+i:Nat):Int) ((a.length+j:Nat):Int):=by
  refine pw_nat (R:=fun i j=>ordR fr to (a++b) ((a.length+i:Nat):Int) ((a.length+j:Nat):Int)) (fun x y z=>ordR_trans ho _ _ _) fun i hi=>?_
  refine hst _ _ (by omega) (by omega) ?_
  have:=asc_le hb i hi
  unfold cfO
  rw[Int.toNat_natCast,Int.toNat_natCast,app_r,app_r]
  exact this
 refine srt_one (ordR_trans ho) (ordR_asym ho) ((mgF_perm _ _ _).trans h1.symm) (mgF_srt (ordR_trans ho) (fun i j hi hj hc=>?_) (fun i j hi hj hc=>?_) hA hB) h2
 ·exact⟨⟨hin _ (by omega),hin _ (by omega)⟩,.inl hc⟩
 ·exact hst i _ (by omega) (by omega) hc
end
section
variable [Vs.Envs]
attribute [local irreducible] Vs.Fn chOK areCh chTo chAt l03 chB rk cd3 chI stp stpTo
def grpTo (fr to:Int) (l:List (List Int)):Nat→List Int
 |0=>[]
 |i+1=>grpTo fr to l i++(if i=0∨cmF fr to (l.getD (i-1) []) (l.getD i [])≠0 then[(i:Int)] else[])
theorem grpTo_succ (fr to:Int) (l:List (List Int)) (i:Nat):grpTo fr to l (i+1)=grpTo fr to l i++(if i=0∨cmF fr to (l.getD (i-1) []) (l.getD i [])≠0 then[(i:Int)] else[]):=rfl
theorem grpTo_zero (fr to:Int) (l:List (List Int)):grpTo fr to l 0=[]:=rfl
theorem grpTo_len (fr to:Int) (l:List (List Int)):∀i,(grpTo fr to l i).length≤i
 |0=>Nat.le_refl _
 | i+1=>by
  have:=grpTo_len fr to l i
  rw[grpTo_succ,List.length_append]
  split<;>simp<;>omega
attribute [local irreducible] grpTo
attribute [local go_sem] E_len List.replicate_succ List.replicate_zero List.flatten_cons List.flatten_nil List.cons_append List.nil_append List.set_cons_zero List.set_cons_succ List.length_cons List.length_nil List.length_set in
theorem groupsOf (l:List (List Int)) (fr to:Int) (ho:∀c,c∈l→okF fr to c) (hl:l.length≤1048576):Fz F.i_groupsOf [.sl 1 (E cC l),.agg (cFd fr to)] (.sl 1 (E cI (grpTo fr to l l.length))):=by
 refine fn0 Cd.i_groupsOf_k fun X=>?_
 repeat' first|simp -dsimp only[go_sem,cC,cFd]|apply Br.mk<;>intro h<;>try simp -dsimp only[h]|refine aC ?_|fail
 refine LoopK.at dM (X:={zz:Nat×(Unit) // zz.1≤l.length∧True}) (fun zz=>[(5,.loc (.t 5 0) 0 (grpTo fr to l zz.1.1).length),(11,.v (.int .i64 zz.1.1))]) (fun zz=>[(.t 5 0,.arr 1 (E cI (grpTo fr to l zz.1.1)) false)]) (fun zz=>l.length-zz.1.1) ⟨(0,()),by omega,trivial⟩ ?_ ?_
 ·simp[Vs.LeL,Vs.look,Vs.hlook,Vs.sput,Vs.sputs,Vs.hset,Vs.hputs,Vs.E,grpTo_zero]
 ·rintro⟨⟨i,_⟩,hi,hg⟩
  dsimp only at hi hg
  simp -dsimp only[go_sem,cC,cFd]
  refine Br.mk (fun hc=>?_) fun hc=>?_
  ·have hlt:i<l.length:=Dq
   have hw:=wrap_succ hlt hl
   have hgl:=grpTo_len fr to l i
   have gi:(E cC l).getD i []=[.sl 1 (E cI (l.getD i []))]:=by rw[E_get hlt];simp[cC,List.getD,hlt]
   have hap:E cI (grpTo fr to l i)++[[.v (.int .i64 (i:Int))]]=E cI (grpTo fr to l i++[(i:Int)]):=by rw[E_append];rfl
   have hal:(E cI (grpTo fr to l i)).length=(grpTo fr to l i).length:=E_len ..
   have hgs:=grpTo_succ fr to l i
   by_cases h0:i=0
   ·subst h0
    rw[if_pos (.inl rfl)] at hgs
    have e0:(((0:Nat):Int)==0)=true:=rfl
    repeat' first|simp -dsimp only[go_sem,e0,hw,hap,hal,gi,cC,cFd]|apply Br.mk<;>intro h<;>try simp -dsimp only[h]|refine aC ?_|fail
    all_goals first|omega|(exact nx (0+1,()) trivial (h2:=by simp[Vs.LeL,Vs.look,Vs.hlook,Vs.sput,Vs.sputs,Vs.hset,Vs.hputs,hgs]))
   ·have e0:((i:Int)==0)=false:=by simp[h0]
    have w0:IntKind.i64.wrap ((i:Int)-1)=((i-1:Nat):Int):=by rw[wrap_in (by omega) (by omega)];omega
    have hl1:i-1<l.length:=by omega
    have gj:(E cC l).getD (i-1) []=[.sl 1 (E cI (l.getD (i-1) []))]:=by rw[E_get hl1];simp[cC,List.getD,hl1]
    have hmi:l.getD i []∈l:=by rw[show l.getD i []=l[i] by simp[List.getD,hlt]];exact List.getElem_mem hlt
    have hmj:l.getD (i-1) []∈l:=by rw[show l.getD (i-1) []=l[i-1] by simp[List.getD,hl1]];exact List.getElem_mem hl1
    have CF:=compareFields (l.getD (i-1) []) (l.getD i []) fr to (ho _ hmj) (ho _ hmi)
    by_cases hc0:cmF fr to (l.getD (i-1) []) (l.getD i [])=0
    ·have e1:(cmF fr to (l.getD (i-1) []) (l.getD i []) != 0)=false:=by rw[hc0];rfl
     rw[if_neg (by rintro(h|h)<;>contradiction),List.append_nil] at hgs
     repeat' first|simp -dsimp only[go_sem,e0,e1,w0,hw,hap,hal,gi,gj,cC,cFd]|apply Br.mk<;>intro h<;>try simp -dsimp only[h]|refine CallK.c (by first|exact CF) ?_|refine aC ?_|fail
     all_goals first|omega|(exact nx (i+1,()) trivial (h2:=by simp[Vs.LeL,Vs.look,Vs.hlook,Vs.sput,Vs.sputs,Vs.hset,Vs.hputs,hgs]))
    ·have e1:(cmF fr to (l.getD (i-1) []) (l.getD i []) != 0)=true:=bne_iff_ne.2 hc0
     rw[if_pos (.inr hc0)] at hgs
     repeat' first|simp -dsimp only[go_sem,e0,e1,w0,hw,hap,hal,gi,gj,cC,cFd]|apply Br.mk<;>intro h<;>try simp -dsimp only[h]|refine CallK.c (by first|exact CF) ?_|refine aC ?_|fail
     all_goals first|omega|(exact nx (i+1,()) trivial (h2:=by simp[Vs.LeL,Vs.look,Vs.hlook,Vs.sput,Vs.sputs,Vs.hset,Vs.hputs,hgs]))
  ·have hge:i=l.length:=by
    have:¬i<l.length:=Dq
    omega
   subst hge
   simp -dsimp only[go_sem,cC,cFd]
   have htk:(E cI (grpTo fr to l l.length)).take (grpTo fr to l l.length).length=E cI (grpTo fr to l l.length):=List.take_of_length_le (by rw[E_len];exact Nat.le_refl _)
   first|exact⟨⟨_,_,rfl,rfl⟩,fun h=>h rfl⟩|(rw[htk];exact⟨⟨_,_,rfl,rfl⟩,fun h=>h rfl⟩)|(simp[htk];done)
end
section
variable [Vs.Envs]
attribute [local irreducible] Vs.Fn grpTo chOK areCh chTo chAt l03 chB rk cd3 chI stp stpTo
theorem grpTo_in {fr to:Int}{l:List (List Int)}:∀n x,x∈grpTo fr to l n→0≤x∧x<(n:Int)
 |0,x,h=>by rw[grpTo_zero] at h;cases h
 | n+1,x,h=>by
  rw[grpTo_succ] at h
  rcases List.mem_append.1 h with h|h
  ·have:=grpTo_in n x h;omega
  ·split at h
   ·simp at h;subst h;omega
   ·cases h
theorem grpTo_up {fr to:Int}{l:List (List Int)}:∀n,(grpTo fr to l n).Pairwise (· < ·)
 |0=>by rw[grpTo_zero];exact List.Pairwise.nil
 | n+1=>by
  rw[grpTo_succ,List.pairwise_append]
  refine⟨grpTo_up n,by split<;>simp,fun a ha b hb=>?_⟩
  have:=grpTo_in n a ha
  split at hb
  ·simp at hb;subst hb;exact this.2
  ·cases hb
def grpAt (l:List (List Int)) (s:List Int) (i:Nat):List (List Int):=(l.take (if i+1<s.length then(s.getD (i+1) 0).toNat else l.length)).drop (s.getD i 0).toNat
def grpL (fr to:Int) (l:List (List Int)):List (List (List Int)):=(List.range (grpTo fr to l l.length).length).map (grpAt l (grpTo fr to l l.length))
attribute [local irreducible] grpAt
attribute [local go_sem] E_len List.replicate_succ List.replicate_zero List.flatten_cons List.flatten_nil List.cons_append List.nil_append List.set_cons_zero List.set_cons_succ List.length_cons List.length_nil List.length_set in
theorem groups (l:List (List Int)) (fr to:Int) (ho:∀c,c∈l→okF fr to c) (hl:l.length≤1048576):Fz F.i_groups [.sl 1 (E cC l),.agg (cFd fr to)] (.sl 1 (E cD (grpL fr to l))):=by
 have GO:=groupsOf l fr to ho hl
 have SZ:=sizeC l
 have hgl:=grpTo_len fr to l l.length
 have hin:=grpTo_in (fr:=fr) (to:=to) (l:=l) l.length
 have hup:=grpTo_up (fr:=fr) (to:=to) (l:=l) l.length
 rw[show grpL fr to l=(List.range (grpTo fr to l l.length).length).map (grpAt l (grpTo fr to l l.length)) from rfl]
 generalize grpTo fr to l l.length=s at *
 refine fn0 Cd.i_groups_k fun X=>?_
 repeat' first|simp -dsimp only[go_sem,cC,cFd,cD]|apply Br.mk<;>intro h<;>try simp -dsimp only[h]|refine CallK.c (by first|exact GO) ?_|refine aC ?_|fail
 refine LoopK.at dM (X:={zz:Nat×(Unit) // zz.1≤s.length∧True}) (fun zz=>[(5,.loc (.t 5 0) 0 zz.1.1),(16,.v (.int .i64 zz.1.1))]) (fun zz=>[(.t 5 0,.arr 1 (E cD ((List.range zz.1.1).map (grpAt l s))) false)]) (fun zz=>s.length-zz.1.1) ⟨(0,()),by omega,trivial⟩ ?_ ?_
 ·simp[Vs.LeL,Vs.look,Vs.hlook,Vs.sput,Vs.sputs,Vs.hset,Vs.hputs,Vs.E]
 ·rintro⟨⟨i,_⟩,hi,hg⟩
  dsimp only at hi hg
  simp -dsimp only[go_sem,cC,cFd,cD]
  refine Br.mk (fun hc=>?_) fun hc=>?_
  ·have hlt:i<s.length:=Dq
   have hw:=wrap_succ hlt (by omega)
   have hs0:=hin _ (List.getElem_mem hlt)
   have e:s.getD i 0=s[i]:=by simp[List.getD,hlt]
   have hap:E cD ((List.range i).map (grpAt l s))++[[.sl 1 (E cC (grpAt l s i))]]=E cD ((List.range (i+1)).map (grpAt l s)):=by
    rw[List.range_succ,List.map_append,E_append];rfl
   have hal:(E cD ((List.range i).map (grpAt l s))).length=i:=by rw[E_len];simp
   have hiw:IntKind.i64.wrap ((i:Int)+1)=((i+1:Nat):Int):=hw
   by_cases h1:i+1<s.length
   ·have e1:decide (((i+1:Nat):Int)<(s.length:Int))=true:=by simp;omega
    have hs1:=hin _ (List.getElem_mem h1)
    have hlt2:s[i]<s[i+1]:=List.pairwise_iff_getElem.1 hup i (i+1) hlt h1 (by omega)
    have hga:((E cC l).take s[i+1].toNat).drop s[i].toNat=E cC (grpAt l s i):=by
     unfold grpAt
     rw[if_pos h1,e,show s.getD (i+1) 0=s[i+1] by simp[List.getD,h1]]
     simp[E,List.map_take,List.map_drop]
    simp -dsimp only[go_sem,cI_get hlt,cI_get h1,hw,e1,hal,cC,cFd,cD]
    repeat' first|simp -dsimp only[go_sem,cI_get hlt,cI_get h1,hw,e1,hap,hal,hga,cC,cFd,cD]|apply Br.mk<;>intro h<;>try simp -dsimp only[h]|refine CallK.c (by first|exact SZ) ?_|refine aC ?_|fail
    all_goals first|omega|(exact nx (i+1,()) trivial (h2:=by simp[Vs.LeL,Vs.look,Vs.hlook,Vs.sput,Vs.sputs,Vs.hset,Vs.hputs,List.range_succ]))
   ·have e1:decide (((i+1:Nat):Int)<(s.length:Int))=false:=by simp;omega
    have hga:(E cC l).drop s[i].toNat=E cC (grpAt l s i):=by
     unfold grpAt
     rw[if_neg h1,e,List.take_of_length_le (Nat.le_refl _)]
     simp[E,List.map_drop]
    simp -dsimp only[go_sem,cI_get hlt,hw,e1,hal,cC,cFd,cD]
    repeat' first|simp -dsimp only[go_sem,cI_get hlt,hw,e1,hap,hal,hga,cC,cFd,cD]|apply Br.mk<;>intro h<;>try simp -dsimp only[h]|refine CallK.c (by first|exact SZ) ?_|refine aC ?_|fail
    all_goals first|omega|(exact nx (i+1,()) trivial (h2:=by simp[Vs.LeL,Vs.look,Vs.hlook,Vs.sput,Vs.sputs,Vs.hset,Vs.hputs,List.range_succ]))
  ·have hge:i=s.length:=by
    have:¬i<s.length:=Dq
    omega
   subst hge
   simp -dsimp only[go_sem,cC,cFd,cD]
   have htk:(E cD ((List.range s.length).map (grpAt l s))).take s.length=E cD ((List.range s.length).map (grpAt l s)):=List.take_of_length_le (by rw[E_len];simp)
   first|exact⟨⟨_,_,rfl,rfl⟩,fun h=>h rfl⟩|(rw[htk];exact⟨⟨_,_,rfl,rfl⟩,fun h=>h rfl⟩)|(simp[htk];done)
end
section
variable [Vs.Envs]
attribute [local irreducible] Vs.Fn chOK areCh chTo chAt l03 chB rk cd3 chI stp stpTo
def sumW (fr to:Int) (l:List (List Int)):Int:=l.foldl (fun a c=>IntKind.i64.wrap (a+(numC fr to c).1)) 0
def allN (fr to:Int) (l:List (List Int)):Bool:=l.all fun c=>(numC fr to c).2
theorem sumW_succ {fr to:Int}{l:List (List Int)}{i:Nat} (h:i<l.length):sumW fr to (l.take (i+1))=IntKind.i64.wrap (sumW fr to (l.take i)+(numC fr to l[i]).1):=by
 unfold sumW
 rw[take_succ h,List.foldl_append];rfl
def sumsV (fr to:Int) (l:List (List Int)):AV:=if allN fr to l then .sl 1 (E cI [sumW fr to l]) else .v (.slice none 0 0)
attribute [local irreducible] sumW numC
attribute [local go_sem] cFd E_len List.replicate_succ List.replicate_zero List.flatten_cons List.flatten_nil List.cons_append List.nil_append List.set_cons_zero List.set_cons_succ List.length_cons List.length_nil List.length_set List.getD_cons_zero in
theorem sumsOf (l:List (List Int)) (fr to:Int) (ho:∀c,c∈l→okP fr to c) (hl:l.length≤1048576):Fz F.i_sumsOf [.sl 2 [[.v (.int .i64 fr),.v (.int .i64 to)]],.sl 1 (E cC l)] (.tup [sumsV fr to l,.v (.bool (allN fr to l))]):=by
 refine fn0 Cd.i_sumsOf_k fun X=>?_
 repeat' first|simp -dsimp only[go_sem,cC]|apply Br.mk<;>intro h<;>try simp -dsimp only[h]|refine aC ?_|fail
 refine LoopK.at dM (X:={zz:Nat×(Unit) // zz.1≤1∧(zz.1=1→allN fr to l=true)}) (fun zz=>[(6,.loc (.t 6 0) 0 zz.1.1),(17,.v (.int .i64 zz.1.1))]) (fun zz=>[(.t 6 0,.arr 1 (E cI ([sumW fr to l].take zz.1.1)) false)]) (fun zz=>1-zz.1.1) ⟨(0,()),by omega,by intro h;cases h⟩ ?_ ?_
 ·simp[Vs.LeL,Vs.look,Vs.hlook,Vs.sput,Vs.sputs,Vs.hset,Vs.hputs,Vs.E]
 ·rintro⟨⟨i,_⟩,hi,hg⟩
  dsimp only at hi hg
  simp -dsimp only[go_sem,cC]
  refine Br.mk (fun hc=>?_) fun hc=>?_
  ·have hlt:i<1:=Dq
   have hw:=wrap_succ hlt (by omega)
   obtain rfl:i=0:=by omega
   repeat' first|simp -dsimp only[go_sem,cC]|apply Br.mk<;>intro h<;>try simp -dsimp only[h]|refine aC ?_|fail
   refine LoopK.at dM (X:={zz:Nat×(Unit) // zz.1≤l.length∧(l.take zz.1).all (fun c=>(numC fr to c).2)=true}) (fun zz=>[(9,.v (.int .i64 (sumW fr to (l.take zz.1.1)))),(23,.v (.int .i64 zz.1.1))]) (fun zz=>[]) (fun zz=>l.length-zz.1.1) ⟨(0,()),by omega,by simp⟩ ?_ ?_
   ·simp[Vs.LeL,Vs.look,Vs.hlook,Vs.sput,Vs.sputs,Vs.hset,Vs.hputs,sumW]
   ·rintro⟨⟨i,_⟩,hi,hg⟩
    dsimp only at hi hg
    simp -dsimp only[go_sem,cC]
    refine Br.mk (fun hc=>?_) fun hc=>?_
    ·have hlt:i<l.length:=Dq
     have hw:=wrap_succ hlt hl
     have hm:(E cC l).getD i []=[.sl 1 (E cI l[i])]:=E_get hlt
     have NI:=numberInC (ho _ (List.getElem_mem hlt))
     have hss:=sumW_succ (fr:=fr) (to:=to) hlt
     cases hb:(numC fr to l[i]).2
     ·rw[hb] at NI
      have hna:allN fr to l=false:=not_all (p:=fun c=>(numC fr to c).2) hlt hb
      have hv:sumsV fr to l=.v (.slice none 0 0):=by simp[sumsV,hna]
      repeat' first|simp -dsimp only[go_sem,hm,hw,cC]|apply Br.mk<;>intro h<;>try simp -dsimp only[h]|refine CallK.c (by first|exact NI) ?_|refine aC ?_|fail
      all_goals first|omega|(rw[hv,hna];exact⟨_,_,rfl,rfl⟩)|(simp[hv,hna];done)
     ·rw[hb] at NI
      simp -dsimp only[go_sem,hm,hw,cC]
      repeat' first|simp -dsimp only[go_sem,hm,hw,←hss,cC]|apply Br.mk<;>intro h<;>try simp -dsimp only[h]|refine CallK.c (by first|exact NI) ?_|refine aC ?_|fail
      all_goals first|omega|(exact nx (i+1,()) (take_succ_all (p:=fun c=>(numC fr to c).2) hlt hg hb) (h2:=by simp[Vs.LeL,Vs.look,Vs.hlook,Vs.sput,Vs.sputs,Vs.hset,Vs.hputs,hss]))
    ·have hge:i=l.length:=by
      have:¬i<l.length:=Dq
      omega
     subst hge
     simp -dsimp only[go_sem,cC]
     have hall:allN fr to l=true:=by simpa[allN] using hg
     have e01:IntKind.i64.wrap 1=1:=rfl
     have hfull:l.take l.length=l:=List.take_of_length_le (Nat.le_refl _)
     refine⟨⟨by decide,by decide,?_⟩,fun h=>absurd rfl h⟩
     exact⟨⟨(1,()),⟨by omega,fun _=>hall⟩⟩,by simp[Vs.LeL,Vs.look,Vs.hlook,Vs.sput,Vs.sputs,Vs.hset,Vs.hputs,hfull,e01,Vs.E,cI],by simp only;omega⟩
  ·have hge:i=1:=by
    have:¬i<1:=Dq
    omega
   subst hge
   simp -dsimp only[go_sem,cC]
   have hall:=hg rfl
   rw[hall,show sumsV fr to l=.sl 1 (E cI [sumW fr to l]) by simp[sumsV,hall]]
   exact⟨⟨_,_,rfl,rfl⟩,fun h=>h rfl⟩
end
end Go.Proofs.YthfnpdhpefialaaGreat
