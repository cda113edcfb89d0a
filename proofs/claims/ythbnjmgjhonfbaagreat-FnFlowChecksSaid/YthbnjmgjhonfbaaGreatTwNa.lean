/- The decks within a bound, one by one; those of a sample are decks. -/
import Derived.Test.YthbnjmgjhonfbaaGreatTuT
import Derived.Test.YthbnjmgjhonfbaaGreatVtR
import Derived.Test.YthbnjmgjhonfbaaGreatTwD
import Derived.Test.YthbnjmgjhonfbaaGreatTuM
set_option linter.all false
set_option maxHeartbeats 8000000
namespace Go.Proofs.YthbnjmgjhonfbaaGreat
open Go.Vs
section
variable [Vs.Envs]
attribute [local irreducible] Vs.Fn
theorem aGb {p:List (List (List Int))}{i:Nat} (h:i<p.length):(E cD p).getD i []=[.sl 1 (E cC p[i])]:=aX h
theorem aEQ (l:List (List Int)):∀i d,d∈eP l i→d.length=i∧∀x,x∈d→x∈l
 | 0,d,h=>by
  have:d=[]:=by simpa[eP] using h
  subst this;simp
 | i+1,d,h=>by
  simp only[eP,gL,List.mem_flatMap,List.mem_map] at h;obtain⟨d0,h0,c,hc,rfl⟩:=h;obtain⟨h1,h2⟩:=aEQ l i d0 h0;refine⟨by simp[h1],fun x hx=>?_⟩;rcases List.mem_append.1 hx with h|h
  ·exact h2 x h
  ·rw[List.mem_singleton.1 h];exact hc
theorem aFK (l:List (List Int)) {p:List (List (List Int))}{j:Nat} (h:j<p.length):gL l (p.take (j+1))=gL l (p.take j)++l.map fun c=>p[j]++[c]:=by
 simp only[gL,bL h,List.flatMap_append,List.flatMap_cons,List.flatMap_nil,List.append_nil]
theorem aEa (l:List (List Int)) (k:Nat) (hs:∀x,x∈l→x.length≤1048576) (hl:l.length≤5) (hk:k≤3):Fz F.oH [.sl 1 (E cC l),.v (.int .i64 k)] (.sl 1 (E cD (kZ l k))):=by
 refine fn0 Cd.i_decksOf_k fun X=>?_;simp -dsimp only[go_sem,List.replicate_succ,List.replicate_zero,List.flatten_cons,List.flatten_nil];refine⟨by omega,[],rfl,rfl,⟨by omega,by omega⟩,by omega,[],rfl,rfl,by omega,?_⟩;refine aN.intro dM (fun i:{i:Nat // i≤k}=>⟨[(0,.sl 1 (E cC l)),(5,.loc (.t 5 0) 0 (kZ l i.1).length),(6,.sl 1 (E cD (eP l i.1))),(16,.v (.int .i64 k)),(17,.v (.int .i64 i.1))],[(.t 5 0,.arr 1 (E cD (kZ l i.1)) false)]⟩) (fun i=>k-i.1) ⟨0,by omega⟩ ?_ ?_
 ·simp[Vs.LeL,Vs.look,Vs.aB,Vs.E,kZ,eP,cD]
 ·rintro⟨i,hi⟩;simp -dsimp only[go_sem];refine Br.mk (fun h1=>?_) fun h1=>?_
  ·have hlt:i<k:=by simpa using h1
   have hw:=aG hlt (by omega);have hp:(eP l i).length≤625:=by rw[sK];exact aIJ _ _ hl (by omega)
   simp -dsimp only[go_sem];refine⟨by omega,rfl,aN.intro dM (fun j:{j:Nat // j≤(eP l i).length}=>⟨[(0,.sl 1 (E cC l)),(5,.loc (.t 5 0) 0 (kZ l i).length),(7,.loc (.t 7 0) 0 (gL l ((eP l i).take j.1)).length),(16,.v (.int .i64 k)),(17,.v (.int .i64 i)),(20,.sl 1 (E cD (eP l i))),(21,.v (.int .i64 (eP l i).length)),(22,.v (.int .i64 j.1))],[(.t 7 0,.arr 1 (E cD (gL l ((eP l i).take j.1))) false),(.t 5 0,.arr 1 (E cD (kZ l i)) false)]⟩) (fun j=>(eP l i).length-j.1) ⟨0,by omega⟩ ?_ ?_⟩
   ·simp[Vs.LeL,Vs.look,Vs.aB,gL,Vs.E]
   ·rintro⟨j,hj⟩;simp -dsimp only[go_sem];refine Br.mk (fun h2=>?_) fun h2=>?_
    ·have hjt:j<(eP l i).length:=by simpa using h2
     have hwj:=aG hjt (by omega);obtain⟨hd1,hd2⟩:=aEQ l i _ (List.getElem_mem hjt)
     have hnl:(gL l ((eP l i).take j)).length≤625*5:=by
      rw[vD];exact Nat.mul_le_mul (by simp;omega) hl
     simp -dsimp only[go_sem,aGb hjt];refine⟨⟨by omega,by omega⟩,?_⟩
     refine aN.intro dM (fun q:{q:Nat // q≤l.length}=>⟨[(0,.sl 1 (E cC l)),(5,.loc (.t 5 0) 0 (kZ l i).length),(7,.loc (.t 7 0) 0 (gL l ((eP l i).take j)++(l.take q.1).map fun c=>(eP l i)[j]++[c]).length),(9,.sl 1 (E cC (eP l i)[j])),(16,.v (.int .i64 k)),(17,.v (.int .i64 i)),(20,.sl 1 (E cD (eP l i))),(21,.v (.int .i64 (eP l i).length)),(22,.v (.int .i64 j)),(26,.sl 1 (E cC l)),(27,.v (.int .i64 l.length)),(28,.v (.int .i64 q.1))],
       [(.t 7 0,.arr 1 (E cD (gL l ((eP l i).take j)++(l.take q.1).map fun c=>(eP l i)[j]++[c])) false),(.t 5 0,.arr 1 (E cD (kZ l i)) false)]⟩) (fun q=>l.length-q.1) ⟨0,by omega⟩ ?_ ?_
     ·simp[Vs.LeL,Vs.look,Vs.aB]
     ·rintro⟨q,hq⟩;simp -dsimp only[go_sem];refine Br.mk (fun h3=>?_) fun h3=>?_
      ·have hqt:q<l.length:=by simpa using h3
       have hwq:=aG hqt (by omega);simp -dsimp only[go_sem,aX hqt];refine⟨⟨by omega,by omega⟩,by simp[cC],?_⟩;simp -dsimp only[go_sem,cC];refine RgK.mk rfl ?_;simp -dsimp only[go_sem,cC];refine aA.own (vE (eP l i)[j] (fun x hx=>hs x (hd2 x hx)) (by omega)) rfl ?_;simp -dsimp only[go_sem,cC];refine aA.pure (aAg l[q] (hs _ (List.getElem_mem hqt))) ?_;have hap:E cC (eP l i)[j]++[[.sl 1 (E cI l[q])]]=E cC ((eP l i)[j]++[l[q]]):=by rw[aY];rfl
       have hap2:E cD (gL l ((eP l i).take j)++(l.take q).map fun c=>(eP l i)[j]++[c])++[[.sl 1 (E cC ((eP l i)[j]++[l[q]]))]]=E cD (gL l ((eP l i).take j)++(l.take (q+1)).map fun c=>(eP l i)[j]++[c]):=by
        rw[bL hqt,List.map_append,←List.append_assoc,aY (c:=cD) (_++_)];rfl
       have hlen:(gL l ((eP l i).take j)++(l.take q).map fun c=>(eP l i)[j]++[c]).length+1=(gL l ((eP l i).take j)++(l.take (q+1)).map fun c=>(eP l i)[j]++[c]).length:=by
        simp only[List.length_append,List.length_map,List.length_take];omega
       have hlb:(gL l ((eP l i).take j)++(l.take q).map fun c=>(eP l i)[j]++[c]).length≤4000:=by
        simp only[List.length_append,List.length_map,List.length_take];omega
       simp -dsimp only[go_sem,cC,aH,hap,hap2,hlen,hwq,List.replicate_succ,List.replicate_zero,List.flatten_cons,List.flatten_nil,List.filter_cons,List.filter_nil];exact⟨by omega,⟨by omega,by omega⟩,by omega,⟨by omega,by omega⟩,⟨q+1,by omega⟩,by simp[Vs.LeL,Vs.look,Vs.aB],by simp only;omega⟩
      ·have hge:q=l.length:=by
        have:¬q<l.length:=by simpa using h3
        omega
       subst hge;simp -dsimp only[go_sem,hwj];have e:gL l ((eP l i).take (j+1))=gL l ((eP l i).take j)++(l.take l.length).map fun c=>(eP l i)[j]++[c]:=by rw[aFK l hjt,List.take_length]
       exact⟨⟨⟨j+1,by omega⟩,by simp only[e];simp[Vs.LeL,Vs.look,Vs.aB],by simp only;omega⟩,by simp⟩
    ·have hge:j=(eP l i).length:=by
      have:¬j<(eP l i).length:=by simpa using h2
      omega
     subst hge;simp -dsimp only[go_sem,hw,List.filter_cons,List.filter_nil,aH,List.take_length];have e1:eP l (i+1)=gL l (eP l i):=rfl;have e2:kZ l (i+1)=kZ l i++gL l (eP l i):=rfl;have b1:(kZ l i).length≤4000:=by rw[eU];have:=aD5 l.length hl i (by omega);omega
     have b2:(gL l (eP l i)).length≤4000:=by
      have:(eP l i).length*l.length≤625*5:=Nat.mul_le_mul hp hl;rw[vD];omega
     exact⟨⟨⟨by omega,by omega⟩,⟨i+1,by omega⟩,by simp[Vs.LeL,Vs.look,Vs.aB,e1,e2,aY],by simp only;omega⟩,by simp⟩
  ·have hge:i=k:=by
    have:¬i<k:=by simpa using h1
    omega
   subst hge;simp -dsimp only[go_sem];exact⟨⟨_,_,rfl,rfl⟩,by simp⟩
end
section
variable [Vs.Envs]
attribute [local irreducible] Vs.Fn cZ aW dB dC l03 chB rk cd3 chI stp aZ
def atD (l:List (List Int)):Nat→Nat→List (List Int)
 |0,_=>[]
 |i+1,q=>atD l i (q/l.length)++[l.getD (q%l.length) []]
theorem aC8 (l:List (List Int)) (hl:0<l.length):∀(p:List (List (List Int))) (q:Nat),q<p.length*l.length→(gL l p)[q]? = some (p.getD (q/l.length) []++[l.getD (q%l.length) []])
 | [],q,h=>by simp at h
 | d::r,q,h=>by
  have e:gL l (d::r)=(l.map fun c=>d++[c])++gL l r:=by simp[gL]
  rw[e];by_cases hq:q<l.length
  ·rw[List.getElem?_append_left (by simpa using hq),Nat.div_eq_of_lt hq,Nat.mod_eq_of_lt hq];simp[hq]
  ·have hq2:l.length≤q:=by omega
   have h2:q-l.length<r.length*l.length:=by
    have:(r.length+1)*l.length=r.length*l.length+l.length:=by rw[Nat.add_mul,Nat.one_mul]
    rw[List.length_cons,this] at h;omega
   rw[List.getElem?_append_right (by simpa using hq2),List.length_map,aC8 l hl r _ h2,Nat.div_eq_sub_div hl hq2,Nat.mod_eq_sub_mod hq2];simp
theorem aGK (l:List (List Int)) (hl:0<l.length):∀(i q:Nat),q<l.length ^ i→(eP l i)[q]? = some (atD l i q)
 | 0,q,h=>by
  have:q=0:=by simpa using h
  subst this;simp[eP,atD]
 | i+1,q,h=>by
  rw[Nat.pow_succ] at h;have h1:q<(eP l i).length*l.length:=by rw[sK];exact h
  have h2:q/l.length<l.length ^ i:=(Nat.div_lt_iff_lt_mul hl).2 h;rw[eP,aC8 l hl _ _ h1,List.getD_eq_getElem?_getD,aGK l hl i _ h2,atD];rfl
theorem aCl (m:Nat):∀(n i:Nat),i≤n→geo m i≤geo m n
 | 0,i,h=>by
  have:i=0:=by omega
  subst this;exact Nat.le_refl _
 | n+1,i,h=>by
  by_cases e:i=n+1
  ·subst e;exact Nat.le_refl _
  ·have:=aCl m n i (by omega);simp only[geo];omega
theorem aBN (l:List (List Int)) (hl:0<l.length):∀(n i q:Nat),i≤n→q<l.length ^ i→(kZ l n)[pK l.length i+q]? = some (atD l i q)
 | 0,i,q,h,hq=>by
  have:i=0:=by omega
  subst this;have:q=0:=by simpa using hq
  subst this;simp[kZ,atD,pK]
 | n+1,i,q,h,hq=>by
  rw[kZ];by_cases e:i=n+1
  ·subst e;rw[List.getElem?_append_right (by rw[eU];simp only[pK];omega),eU];simp only[pK,Nat.add_sub_cancel_left];exact aGK l hl _ q hq
  ·have h1:pK l.length i+q<geo l.length n:=by
    have h2:=aDl l.length i;have h3:pK l.length (i+1)=geo l.length i:=rfl;have h4:=aCl l.length n i (by omega);omega
   rw[List.getElem?_append_left (by rw[eU];exact h1)];exact aBN l hl n i q (by omega) hq
theorem aAV (m:Nat):∀(n k:Nat),k<geo m n→∃i q,i≤n∧q<m ^ i∧k=pK m i+q
 |0,k,h=>⟨0,k,Nat.le_refl _,by simpa[geo] using h,by simp[pK]⟩
 | n+1,k,h=>by
  by_cases e:k<geo m n
  ·obtain⟨i,q,h1,h2,h3⟩:=aAV m n k e;exact⟨i,q,by omega,h2,h3⟩
  ·refine⟨n+1,k-geo m n,Nat.le_refl _,?_,?_⟩
   ·simp only[geo] at h;omega
   ·simp only[pK];omega
theorem aEg (l:List (List Int)) (hl:0<l.length):∀(i q:Nat),(atD l i q).length=i∧∀c,c∈atD l i q→c∈l
 |0,q=>by simp[atD]
 | i+1,q=>by
  obtain⟨h1,h2⟩:=aEg l hl i (q/l.length);refine⟨by simp[atD,h1],fun c hc=>?_⟩;rcases List.mem_append.1 hc with h|h
  ·exact h2 c h
  ·rw[List.mem_singleton.1 h,List.getD_eq_getElem?_getD,List.getElem?_eq_getElem (Nat.mod_lt _ hl)];exact List.getElem_mem _
theorem aFn {l:List (List Int)} (hd:aS l=true) (hk:bA l) (hl:0<l.length) (i q:Nat) (hi:i≤3):aS (atD l i q)=true∧bA (atD l i q):=by
 obtain⟨h1,h2⟩:=aEg l hl i q;exact⟨(yK hd h2 (by omega)).1,by omega,fun c hc=>hk.2 c (h2 c hc)⟩
end
end Go.Proofs.YthbnjmgjhonfbaaGreat
