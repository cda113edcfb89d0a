/- The program's decks, one by one. -/
import Derived.Test.YthfnpdhpefialaaGreatYuT
import Derived.Test.YthfnpdhpefialaaGreatVtR
set_option linter.all false
set_option maxHeartbeats 8000000
namespace Go.Proofs.YthfnpdhpefialaaGreat
open Go.Vs
variable [Vs.Envs]
attribute [local irreducible] Vs.Fn
theorem cD_get {p:List (List (List Int))}{i:Nat} (h:i<p.length):(E cD p).getD i []=[.sl 1 (E cC p[i])]:=E_get h
theorem levD_mem (l:List (List Int)):∀i d,d∈levD l i→d.length=i∧∀x,x∈d→x∈l
 | 0,d,h=>by
  have:d=[]:=by simpa[levD] using h
  subst this;simp
 | i+1,d,h=>by
  simp only[levD,nextD,List.mem_flatMap,List.mem_map] at h
  obtain⟨d0,h0,c,hc,rfl⟩:=h
  obtain⟨h1,h2⟩:=levD_mem l i d0 h0
  refine⟨by simp[h1],fun x hx=>?_⟩
  rcases List.mem_append.1 hx with h|h
  ·exact h2 x h
  ·rw[List.mem_singleton.1 h];exact hc
theorem nextD_take (l:List (List Int)) {p:List (List (List Int))}{j:Nat} (h:j<p.length):nextD l (p.take (j+1))=nextD l (p.take j)++l.map fun c=>p[j]++[c]:=by
 simp only[nextD,take_succ h,List.flatMap_append,List.flatMap_cons,List.flatMap_nil,List.append_nil]
theorem decksOf (l:List (List Int)) (k:Nat) (hs:∀x,x∈l→x.length≤1048576) (hl:l.length≤5) (hk:k≤3):Fz F.i_decksOf [.sl 1 (E cC l),.v (.int .i64 k)] (.sl 1 (E cD (allD l k))):=by
 refine fn0 Cd.i_decksOf_k fun X=>?_
 simp -dsimp only[go_sem,List.replicate_succ,List.replicate_zero,List.flatten_cons,List.flatten_nil]
 refine⟨by omega,[],rfl,rfl,⟨by omega,by omega⟩,by omega,[],rfl,rfl,by omega,?_⟩
 refine LoopK.intro dM (fun i:{i:Nat // i≤k}=>⟨[(0,.sl 1 (E cC l)),(5,.loc (.t 5 0) 0 (allD l i.1).length),(6,.sl 1 (E cD (levD l i.1))),(16,.v (.int .i64 k)),(17,.v (.int .i64 i.1))],[(.t 5 0,.arr 1 (E cD (allD l i.1)) false)]⟩) (fun i=>k-i.1) ⟨0,by omega⟩ ?_ ?_
 ·simp[Vs.LeL,Vs.look,Vs.hlook,Vs.E,allD,levD,cD]
 ·rintro⟨i,hi⟩
  simp -dsimp only[go_sem]
  refine Br.mk (fun h1=>?_) fun h1=>?_
  ·have hlt:i<k:=by simpa using h1
   have hw:=wrap_succ hlt (by omega)
   have hp:(levD l i).length≤625:=by rw[levD_length];exact pow_le _ _ hl (by omega)
   simp -dsimp only[go_sem]
   refine⟨by omega,rfl,LoopK.intro dM (fun j:{j:Nat // j≤(levD l i).length}=>⟨[(0,.sl 1 (E cC l)),(5,.loc (.t 5 0) 0 (allD l i).length),(7,.loc (.t 7 0) 0 (nextD l ((levD l i).take j.1)).length),(16,.v (.int .i64 k)),(17,.v (.int .i64 i)),(20,.sl 1 (E cD (levD l i))),(21,.v (.int .i64 (levD l i).length)),(22,.v (.int .i64 j.1))],[(.t 7 0,.arr 1 (E cD (nextD l ((levD l i).take j.1))) false),(.t 5 0,.arr 1 (E cD (allD l i)) false)]⟩) (fun j=>(levD l i).length-j.1) ⟨0,by omega⟩ ?_ ?_⟩
   ·simp[Vs.LeL,Vs.look,Vs.hlook,nextD,Vs.E]
   ·rintro⟨j,hj⟩
    simp -dsimp only[go_sem]
    refine Br.mk (fun h2=>?_) fun h2=>?_
    ·have hjt:j<(levD l i).length:=by simpa using h2
     have hwj:=wrap_succ hjt (by omega)
     obtain⟨hd1,hd2⟩:=levD_mem l i _ (List.getElem_mem hjt)
     have hnl:(nextD l ((levD l i).take j)).length≤625*5:=by
      rw[nextD_length];exact Nat.mul_le_mul (by simp;omega) hl
     simp -dsimp only[go_sem,cD_get hjt]
     refine⟨⟨by omega,by omega⟩,?_⟩
     refine LoopK.intro dM (fun q:{q:Nat // q≤l.length}=>⟨[(0,.sl 1 (E cC l)),(5,.loc (.t 5 0) 0 (allD l i).length),(7,.loc (.t 7 0) 0 (nextD l ((levD l i).take j)++(l.take q.1).map fun c=>(levD l i)[j]++[c]).length),(9,.sl 1 (E cC (levD l i)[j])),(16,.v (.int .i64 k)),(17,.v (.int .i64 i)),(20,.sl 1 (E cD (levD l i))),(21,.v (.int .i64 (levD l i).length)),(22,.v (.int .i64 j)),(26,.sl 1 (E cC l)),(27,.v (.int .i64 l.length)),(28,.v (.int .i64 q.1))],
       [(.t 7 0,.arr 1 (E cD (nextD l ((levD l i).take j)++(l.take q.1).map fun c=>(levD l i)[j]++[c])) false),(.t 5 0,.arr 1 (E cD (allD l i)) false)]⟩) (fun q=>l.length-q.1) ⟨0,by omega⟩ ?_ ?_
     ·simp[Vs.LeL,Vs.look,Vs.hlook]
     ·rintro⟨q,hq⟩
      simp -dsimp only[go_sem]
      refine Br.mk (fun h3=>?_) fun h3=>?_
      ·have hqt:q<l.length:=by simpa using h3
       have hwq:=wrap_succ hqt (by omega)
       simp -dsimp only[go_sem,E_get hqt]
       refine⟨⟨by omega,by omega⟩,by simp[cC],?_⟩
       simp -dsimp only[go_sem,cC]
       refine RgK.mk rfl ?_
       simp -dsimp only[go_sem,cC]
       refine CallK.own (newDeck (levD l i)[j] (fun x hx=>hs x (hd2 x hx)) (by omega)) rfl ?_
       simp -dsimp only[go_sem,cC]
       refine CallK.pure (newCard l[q] (hs _ (List.getElem_mem hqt))) ?_
       have hap:E cC (levD l i)[j]++[[.sl 1 (E cI l[q])]]=E cC ((levD l i)[j]++[l[q]]):=by rw[E_append];rfl
       have hap2:E cD (nextD l ((levD l i).take j)++(l.take q).map fun c=>(levD l i)[j]++[c])++[[.sl 1 (E cC ((levD l i)[j]++[l[q]]))]]=E cD (nextD l ((levD l i).take j)++(l.take (q+1)).map fun c=>(levD l i)[j]++[c]):=by
        rw[take_succ hqt,List.map_append,←List.append_assoc,E_append (c:=cD) (_++_)];rfl
       have hlen:(nextD l ((levD l i).take j)++(l.take q).map fun c=>(levD l i)[j]++[c]).length+1=(nextD l ((levD l i).take j)++(l.take (q+1)).map fun c=>(levD l i)[j]++[c]).length:=by
        simp only[List.length_append,List.length_map,List.length_take];omega
       have hlb:(nextD l ((levD l i).take j)++(l.take q).map fun c=>(levD l i)[j]++[c]).length≤4000:=by
        simp only[List.length_append,List.length_map,List.length_take];omega
       simp -dsimp only[go_sem,cC,E_len,hap,hap2,hlen,hwq,List.replicate_succ,List.replicate_zero,List.flatten_cons,List.flatten_nil,List.filter_cons,List.filter_nil]
       exact⟨by omega,⟨by omega,by omega⟩,by omega,⟨by omega,by omega⟩,⟨q+1,by omega⟩,by simp[Vs.LeL,Vs.look,Vs.hlook],by simp only;omega⟩
      ·have hge:q=l.length:=by
        have:¬q<l.length:=by simpa using h3
        omega
       subst hge
       simp -dsimp only[go_sem,hwj]
       have e:nextD l ((levD l i).take (j+1))=nextD l ((levD l i).take j)++(l.take l.length).map fun c=>(levD l i)[j]++[c]:=by rw[nextD_take l hjt,List.take_length]
       exact⟨⟨⟨j+1,by omega⟩,by simp only[e];simp[Vs.LeL,Vs.look,Vs.hlook],by simp only;omega⟩,by simp⟩
    ·have hge:j=(levD l i).length:=by
      have:¬j<(levD l i).length:=by simpa using h2
      omega
     subst hge
     simp -dsimp only[go_sem,hw,List.filter_cons,List.filter_nil,E_len,List.take_length]
     have e1:levD l (i+1)=nextD l (levD l i):=rfl
     have e2:allD l (i+1)=allD l i++nextD l (levD l i):=rfl
     have b1:(allD l i).length≤4000:=by rw[allD_length];have:=geo_le l.length hl i (by omega);omega
     have b2:(nextD l (levD l i)).length≤4000:=by
      have:(levD l i).length*l.length≤625*5:=Nat.mul_le_mul hp hl
      rw[nextD_length];omega
     exact⟨⟨⟨by omega,by omega⟩,⟨i+1,by omega⟩,by simp[Vs.LeL,Vs.look,Vs.hlook,e1,e2,E_append],by simp only;omega⟩,by simp⟩
  ·have hge:i=k:=by
    have:¬i<k:=by simpa using h1
    omega
   subst hge
   simp -dsimp only[go_sem]
   exact⟨⟨_,_,rfl,rfl⟩,by simp⟩
end Go.Proofs.YthfnpdhpefialaaGreat
