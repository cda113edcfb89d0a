/- The program's decks of samples. -/
import Derived.Test.YtkgeiaideklmoaaGreatZuR
set_option linter.all false
set_option maxHeartbeats 8000000
namespace Go.Proofs.YtkgeiaideklmoaaGreat
open Go.Vs
variable [Vs.Envs]
attribute [local irreducible] Vs.Fn
theorem lM (l:List (List Int)) (hs:∀x,x∈l→x.length≤1048576) (hl:l.length≤1048576):Fz F.iH [.sl 1 (E cC l)] (.v (.bool (bB l))):=by
 refine fn0 Cd.i_ValidDeck_k fun X=>?_;simp -dsimp only[go_sem];refine aN.intro dM (fun i:{i:Nat // i≤l.length∧(l.take i).all (fun c=>gX c&&decide (c.length=(l.getD 0 []).length))=true}=>⟨[(0,.sl 1 (E cC l)),(5,.sl 1 (E cC l)),(6,.v (.int .i64 l.length)),(7,.v (.int .i64 i.1))],[]⟩) (fun i=>l.length-i.1) ⟨0,by simp⟩ ?_ ?_
 ·simp[Vs.LeL,Vs.look]
 ·rintro⟨i,hi,hall⟩;simp -dsimp only[go_sem];refine Br.mk (fun h1=>?_) fun h1=>?_
  ·have hlt:i<l.length:=by simpa using h1
   have h0:0<l.length:=by omega
   have hw:=aH hlt hl;have g0:l.getD 0 []=l[0]:=by simp[List.getD,h0]
   simp -dsimp only[go_sem,aS hlt,aS h0];refine⟨⟨by omega,by omega⟩,by first|omega|decide|simp[cC],?_⟩;simp -dsimp only[go_sem,cC,aS hlt];refine RgK.mk rfl ?_;simp -dsimp only[go_sem,cC,aS hlt];refine aD.flat (aHe l[i] (hs _ (List.getElem_mem hlt))) rfl ?_;simp -dsimp only[go_sem,cC,aS hlt];refine Br.mk (fun h2=>?_) fun h2=>?_
   ·simp -dsimp only[go_sem,h2];have e:(gX l[i]&&decide (l[i].length=(l.getD 0 []).length))=false:=by simp at h2;simp[h2]
    have hf:bB l=false:=by rw[bB,fT (p:=fun c=>gX c&&decide (c.length=(l.getD 0 []).length)) hlt e];rfl
    simp[hf]
   ·simp -dsimp only[go_sem,cC,h2,aS hlt,aS h0];refine aD.flat (vD l[i]) rfl ?_;simp -dsimp only[go_sem,cC,h2,aS hlt,aS h0];refine⟨⟨by omega,by omega⟩,?_⟩;refine aD.flat (vD l[0]) rfl ?_;simp -dsimp only[go_sem,cC,h2,aS hlt,aS h0];refine Br.mk (fun h3=>?_) fun h3=>?_
    ·simp -dsimp only[go_sem]
     have e:(gX l[i]&&decide (l[i].length=(l.getD 0 []).length))=false:=by
      rw[g0];have:l[i].length≠l[0].length:=by simp at h3;omega
      simp[this]
     have hf:bB l=false:=by rw[bB,fT (p:=fun c=>gX c&&decide (c.length=(l.getD 0 []).length)) hlt e];rfl
     simp[hf]
    ·simp -dsimp only[go_sem,hw]
     have e:(gX l[i]&&decide (l[i].length=(l.getD 0 []).length))=true:=by
      rw[g0];have:l[i].length=l[0].length:=by simp at h3;omega
      simp at h2;simp[this,h2]
     exact⟨⟨i+1,by omega,aZ (p:=fun c=>gX c&&decide (c.length=(l.getD 0 []).length)) hlt hall e⟩,by simp[Vs.LeL,Vs.look],by simp only;omega⟩
  ·have hge:i=l.length:=by
    have:¬i<l.length:=by simpa using h1
    omega
   subst hge;simp -dsimp only[go_sem];have:l.all (fun c=>gX c&&decide (c.length=(l.getD 0 []).length))=true:=by simpa using hall
   rw[bB,this];simp only[Bool.true_and,Value.bool.injEq,AV.v.injEq];simp;omega
theorem sizeC (l:List (List Int)):Fz F.jY [.sl 1 (E cC l)] (.v (.int .i64 l.length)):=by
 refine fn0 Cd.i_size_i_Card__k fun X=>?_
 repeat' first|simp -dsimp only[go_sem]|apply Br.mk<;>intro h<;>try simp -dsimp only[h]|refine aC ?_|fail
 all_goals(simp_all)
theorem aJt (l:List Int) (G:l.length≤1048576):Fz F.j6 [.sl 1 (E cI l)] (.sl 1 (E cI l)):=by
 refine fn0 Cd.i_copyInts_k fun X=>?_;simp -dsimp only[go_sem];exact⟨by omega,rfl,⟨rfl,by omega,by omega⟩,_,_,rfl,rfl⟩
theorem aBl (c:List Int) (G:c.length≤1048576):Fz F.jH [.agg (cC c)] (.agg (cC c)):=by
 refine fn0 Cd.i_newCard_k fun X=>?_
 repeat' first|simp -dsimp only[go_sem,cC]|apply Br.mk<;>intro h<;>try simp -dsimp only[h]|refine aD.c (by first|exact aJt c G) ?_|refine aC ?_|fail
 all_goals(exact⟨_,_,rfl,rfl⟩)
theorem zV (l:List (List Int)) (O:∀x,x∈l→x.length≤1048576) (M:l.length≤1048576):Vs.Fn Tryz.prog F.bZ [] [.sl 1 (E cC l)] (.loc (.b 0) 0 l.length) [some (.arr 1 (E cC l) false)]:=by
 refine fn1 Cd.i_newDeck_k [.t 3 0] [.arr 1 (E cC l) false] fun X=>?_;unfold Cd.bZ;simp -dsimp only[go_sem];refine⟨by omega,rfl,?_⟩;refine aN.intro dM (fun i:{i:Nat // i≤l.length}=>⟨[(3,.loc (.t 3 0) 0 i.1),(7,.sl 1 (E cC l)),(8,.v (.int .i64 l.length)),(9,.v (.int .i64 i.1))],[(.t 3 0,.arr 1 (E cC (l.take i.1)) false)]⟩) (fun i=>l.length-i.1) ⟨0,by omega⟩ ?_ ?_
 ·simp[Vs.LeL,Vs.look,Vs.aB,Vs.E]
 ·rintro⟨i,hi⟩;have L:(l.take i).length=i:=by simp;omega
  simp -dsimp only[go_sem];refine Br.mk (fun H=>?_) fun H=>?_
  ·have G:i<l.length:=by simpa using H
   have U:=aH G M;simp -dsimp only[go_sem,aS G];refine⟨⟨by omega,by omega⟩,by simp[cC],?_⟩;simp -dsimp only[go_sem,cC];have I:E cC (l.take i)++[[.sl 1 (E cI l[i])]]=E cC (l.take (i+1)):=by rw[bJ G,aY];rfl
   refine aD.pure (aBl l[i] (O _ (List.getElem_mem G))) ?_;simp -dsimp only[go_sem,cC,L,aI,I,U,List.replicate_succ,List.replicate_zero,List.flatten_cons,List.flatten_nil];exact⟨by omega,⟨rfl,by omega,by omega⟩,rfl,⟨i+1,by omega⟩,by simp[Vs.LeL,Vs.look,Vs.aB],by simp only;omega⟩
  ·have J:i=l.length:=by
    have:¬i<l.length:=by simpa using H
    omega
   subst J;simp -dsimp only[go_sem];exact⟨⟨[],[],rfl,by rw[List.take_length]⟩,by simp⟩
end Go.Proofs.YtkgeiaideklmoaaGreat
