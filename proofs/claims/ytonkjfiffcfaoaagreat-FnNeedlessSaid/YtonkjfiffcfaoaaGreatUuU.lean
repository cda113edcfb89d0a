/- The program's decks, one by one. -/
import Derived.Test.YtonkjfiffcfaoaaGreatUuT
import Derived.Test.YtonkjfiffcfaoaaGreatVtR
set_option linter.all false
set_option maxHeartbeats 8000000
namespace Go.Proofs.YtonkjfiffcfaoaaGreat
open Go.Vs
variable [Vs.Envs]
attribute [local irreducible] Vs.Fn
theorem aL6 {p:List (List (List Int))}{i:Nat} (h:i<p.length):(E cD p).getD i []=[.sl 1 (E cC p[i])]:=aT h
theorem aEJ (l:List (List Int)):∀i d,d∈eO l i→d.length=i∧∀x,x∈d→x∈l
 | 0,d,h=>by
  have:d=[]:=by simpa[eO] using h
  subst this;simp
 | i+1,d,h=>by
  simp only[eO,fZ,List.mem_flatMap,List.mem_map] at h;obtain⟨d0,h0,c,hc,rfl⟩:=h;obtain⟨h1,h2⟩:=aEJ l i d0 h0;refine⟨by simp[h1],fun x hx=>?_⟩;rcases List.mem_append.1 hx with h|h
  ·exact h2 x h
  ·rw[List.mem_singleton.1 h];exact hc
theorem aFE (l:List (List Int)) {p:List (List (List Int))}{j:Nat} (h:j<p.length):fZ l (p.take (j+1))=fZ l (p.take j)++l.map fun c=>p[j]++[c]:=by
 simp only[fZ,bK h,List.flatMap_append,List.flatMap_cons,List.flatMap_nil,List.append_nil]
theorem aKM (l:List (List Int)) (k:Nat) (hs:∀x,x∈l→x.length≤1048576) (hl:l.length≤5) (hk:k≤3):Fz F.uD [.sl 1 (E cC l),.v (.int .i64 k)] (.sl 1 (E cD (gK l k))):=by
 refine fn0 Cd.i_decksOf_k fun X=>?_;simp -dsimp only[go_sem,List.replicate_succ,List.replicate_zero,List.flatten_cons,List.flatten_nil];refine⟨by omega,[],rfl,rfl,⟨by omega,by omega⟩,by omega,[],rfl,rfl,by omega,?_⟩;refine aN.intro dM (fun i:{i:Nat // i≤k}=>⟨[(0,.sl 1 (E cC l)),(5,.loc (.t 5 0) 0 (gK l i.1).length),(6,.sl 1 (E cD (eO l i.1))),(16,.v (.int .i64 k)),(17,.v (.int .i64 i.1))],[(.t 5 0,.arr 1 (E cD (gK l i.1)) false)]⟩) (fun i=>k-i.1) ⟨0,by omega⟩ ?_ ?_
 ·simp[Vs.LeL,Vs.look,Vs.aB,Vs.E,gK,eO,cD]
 ·rintro⟨i,hi⟩;simp -dsimp only[go_sem];refine Br.mk (fun h1=>?_) fun h1=>?_
  ·have hlt:i<k:=by simpa using h1
   have hw:=aH hlt (by omega);have hp:(eO l i).length≤625:=by rw[sF];exact aDK _ _ hl (by omega)
   simp -dsimp only[go_sem];refine⟨by omega,rfl,aN.intro dM (fun j:{j:Nat // j≤(eO l i).length}=>⟨[(0,.sl 1 (E cC l)),(5,.loc (.t 5 0) 0 (gK l i).length),(7,.loc (.t 7 0) 0 (fZ l ((eO l i).take j.1)).length),(16,.v (.int .i64 k)),(17,.v (.int .i64 i)),(20,.sl 1 (E cD (eO l i))),(21,.v (.int .i64 (eO l i).length)),(22,.v (.int .i64 j.1))],[(.t 7 0,.arr 1 (E cD (fZ l ((eO l i).take j.1))) false),(.t 5 0,.arr 1 (E cD (gK l i)) false)]⟩) (fun j=>(eO l i).length-j.1) ⟨0,by omega⟩ ?_ ?_⟩
   ·simp[Vs.LeL,Vs.look,Vs.aB,fZ,Vs.E]
   ·rintro⟨j,hj⟩;simp -dsimp only[go_sem];refine Br.mk (fun h2=>?_) fun h2=>?_
    ·have hjt:j<(eO l i).length:=by simpa using h2
     have hwj:=aH hjt (by omega);obtain⟨hd1,hd2⟩:=aEJ l i _ (List.getElem_mem hjt)
     have hnl:(fZ l ((eO l i).take j)).length≤625*5:=by
      rw[uZ];exact Nat.mul_le_mul (by simp;omega) hl
     simp -dsimp only[go_sem,aL6 hjt];refine⟨⟨by omega,by omega⟩,?_⟩
     refine aN.intro dM (fun q:{q:Nat // q≤l.length}=>⟨[(0,.sl 1 (E cC l)),(5,.loc (.t 5 0) 0 (gK l i).length),(7,.loc (.t 7 0) 0 (fZ l ((eO l i).take j)++(l.take q.1).map fun c=>(eO l i)[j]++[c]).length),(9,.sl 1 (E cC (eO l i)[j])),(16,.v (.int .i64 k)),(17,.v (.int .i64 i)),(20,.sl 1 (E cD (eO l i))),(21,.v (.int .i64 (eO l i).length)),(22,.v (.int .i64 j)),(26,.sl 1 (E cC l)),(27,.v (.int .i64 l.length)),(28,.v (.int .i64 q.1))],
       [(.t 7 0,.arr 1 (E cD (fZ l ((eO l i).take j)++(l.take q.1).map fun c=>(eO l i)[j]++[c])) false),(.t 5 0,.arr 1 (E cD (gK l i)) false)]⟩) (fun q=>l.length-q.1) ⟨0,by omega⟩ ?_ ?_
     ·simp[Vs.LeL,Vs.look,Vs.aB]
     ·rintro⟨q,hq⟩;simp -dsimp only[go_sem];refine Br.mk (fun h3=>?_) fun h3=>?_
      ·have hqt:q<l.length:=by simpa using h3
       have hwq:=aH hqt (by omega);simp -dsimp only[go_sem,aT hqt];refine⟨⟨by omega,by omega⟩,by simp[cC],?_⟩;simp -dsimp only[go_sem,cC];refine RgK.mk rfl ?_;simp -dsimp only[go_sem,cC];refine aA.own (xY (eO l i)[j] (fun x hx=>hs x (hd2 x hx)) (by omega)) rfl ?_;simp -dsimp only[go_sem,cC];refine aA.pure (aAk l[q] (hs _ (List.getElem_mem hqt))) ?_;have hap:E cC (eO l i)[j]++[[.sl 1 (E cI l[q])]]=E cC ((eO l i)[j]++[l[q]]):=by rw[aR];rfl
       have hap2:E cD (fZ l ((eO l i).take j)++(l.take q).map fun c=>(eO l i)[j]++[c])++[[.sl 1 (E cC ((eO l i)[j]++[l[q]]))]]=E cD (fZ l ((eO l i).take j)++(l.take (q+1)).map fun c=>(eO l i)[j]++[c]):=by
        rw[bK hqt,List.map_append,←List.append_assoc,aR (c:=cD) (_++_)];rfl
       have hlen:(fZ l ((eO l i).take j)++(l.take q).map fun c=>(eO l i)[j]++[c]).length+1=(fZ l ((eO l i).take j)++(l.take (q+1)).map fun c=>(eO l i)[j]++[c]).length:=by
        simp only[List.length_append,List.length_map,List.length_take];omega
       have hlb:(fZ l ((eO l i).take j)++(l.take q).map fun c=>(eO l i)[j]++[c]).length≤4000:=by
        simp only[List.length_append,List.length_map,List.length_take];omega
       simp -dsimp only[go_sem,cC,aG,hap,hap2,hlen,hwq,List.replicate_succ,List.replicate_zero,List.flatten_cons,List.flatten_nil,List.filter_cons,List.filter_nil];exact⟨by omega,⟨by omega,by omega⟩,by omega,⟨by omega,by omega⟩,⟨q+1,by omega⟩,by simp[Vs.LeL,Vs.look,Vs.aB],by simp only;omega⟩
      ·have hge:q=l.length:=by
        have:¬q<l.length:=by simpa using h3
        omega
       subst hge;simp -dsimp only[go_sem,hwj];have e:fZ l ((eO l i).take (j+1))=fZ l ((eO l i).take j)++(l.take l.length).map fun c=>(eO l i)[j]++[c]:=by rw[aFE l hjt,List.take_length]
       exact⟨⟨⟨j+1,by omega⟩,by simp only[e];simp[Vs.LeL,Vs.look,Vs.aB],by simp only;omega⟩,by simp⟩
    ·have hge:j=(eO l i).length:=by
      have:¬j<(eO l i).length:=by simpa using h2
      omega
     subst hge;simp -dsimp only[go_sem,hw,List.filter_cons,List.filter_nil,aG,List.take_length];have e1:eO l (i+1)=fZ l (eO l i):=rfl;have e2:gK l (i+1)=gK l i++fZ l (eO l i):=rfl;have b1:(gK l i).length≤4000:=by rw[iC];have:=zJ l.length hl i (by omega);omega
     have b2:(fZ l (eO l i)).length≤4000:=by
      have:(eO l i).length*l.length≤625*5:=Nat.mul_le_mul hp hl;rw[uZ];omega
     exact⟨⟨⟨by omega,by omega⟩,⟨i+1,by omega⟩,by simp[Vs.LeL,Vs.look,Vs.aB,e1,e2,aR],by simp only;omega⟩,by simp⟩
  ·have hge:i=k:=by
    have:¬i<k:=by simpa using h1
    omega
   subst hge;simp -dsimp only[go_sem];exact⟨⟨_,_,rfl,rfl⟩,by simp⟩
end Go.Proofs.YtonkjfiffcfaoaaGreat
