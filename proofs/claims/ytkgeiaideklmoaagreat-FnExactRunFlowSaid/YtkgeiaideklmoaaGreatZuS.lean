/- The program's decks of samples. -/
import Derived.Test.YtkgeiaideklmoaaGreatZuR
set_option linter.all false
set_option maxHeartbeats 8000000
namespace Go.Proofs.YtkgeiaideklmoaaGreat
open Go.Vs
variable [Vs.Envs]
attribute [local irreducible] Vs.Fn
theorem mR (l:List (List Int)) (hs:∀x,x∈l->x.length<=1048576) (hl:l.length<=1048576):Fz F.kP [.sl 1 (E cC l)] (.v (.bool (bF l))):=by
 refine fn0 Cd.i_ValidDeck_k λX=>?_;simp -dsimp only[go_sem];refine aM.intro dM (λi:{i:Nat // i<=l.length∧(l.take i).all (λc=>iL c&&decide (c.length=(l.getD 0 []).length))=true}=>⟨[(0,.sl 1 (E cC l)),(5,.sl 1 (E cC l)),(6,.v (.int .i64 l.length)),(7,.v (.int .i64 i.1))],[]⟩) (λi=>l.length-i.1) ⟨0,by simp⟩ ?_ ?_
 .simp[Vs.LeL,Vs.look]
 .rintro⟨i,hi,hall⟩;simp -dsimp only[go_sem];refine Br.mk (λh1=>?_) λh1=>?_
  .have hlt:i<l.length:=by simpa using h1
   have h0:0<l.length:=by omega
   have hw:=aG hlt hl;have g0:l.getD 0 []=l[0]:=by simp[List.getD,h0]
   simp -dsimp only[go_sem,aN hlt,aN h0];refine⟨⟨by omega,by omega⟩,by first|omega|decide|simp[cC],?_⟩;simp -dsimp only[go_sem,cC,aN hlt];refine RgK.mk rfl ?_;simp -dsimp only[go_sem,cC,aN hlt];refine aB.flat (aIO l[i] (hs _ (Aa hlt))) rfl ?_;simp -dsimp only[go_sem,cC,aN hlt];refine Br.mk (λh2=>?_) λh2=>?_
   .simp -dsimp only[go_sem,h2];have e:(iL l[i]&&decide (l[i].length=(l.getD 0 []).length))=false:=by simp at h2;simp[h2]
    have hf:bF l=false:=by rw[bF,gY (p:=λc=>iL c&&decide (c.length=(l.getD 0 []).length)) hlt e];rfl
    simp[hf]
   .simp -dsimp only[go_sem,cC,h2,aN hlt,aN h0];refine aB.flat (pX l[i]) rfl ?_;simp -dsimp only[go_sem,cC,h2,aN hlt,aN h0];refine⟨⟨by omega,by omega⟩,?_⟩;refine aB.flat (pX l[0]) rfl ?_;simp -dsimp only[go_sem,cC,h2,aN hlt,aN h0];refine Br.mk (λh3=>?_) λh3=>?_
    .simp -dsimp only[go_sem]
     have e:(iL l[i]&&decide (l[i].length=(l.getD 0 []).length))=false:=by
      rw[g0];have:l[i].length≠l[0].length:=by simp at h3;omega
      simp[this]
     have hf:bF l=false:=by rw[bF,gY (p:=λc=>iL c&&decide (c.length=(l.getD 0 []).length)) hlt e];rfl
     simp[hf]
    .simp -dsimp only[go_sem,hw]
     have e:(iL l[i]&&decide (l[i].length=(l.getD 0 []).length))=true:=by
      rw[g0];have:l[i].length=l[0].length:=by simp at h3;omega
      simp at h2;simp[this,h2]
     exact⟨⟨i+1,by omega,bD (p:=λc=>iL c&&decide (c.length=(l.getD 0 []).length)) hlt hall e⟩,by simp[Vs.LeL,Vs.look],by simp only;omega⟩
  .have hge:i=l.length:=by
    have:¬i<l.length:=by simpa using h1
    omega
   subst hge;simp -dsimp only[go_sem];have:l.all (λc=>iL c&&decide (c.length=(l.getD 0 []).length))=true:=by simpa using hall
   rw[bF,this];simp only[CX,Value.bool.injEq,AV.v.injEq];simp;omega
theorem sizeC (l:List (List Int)):Fz F.kJ [.sl 1 (E cC l)] (.v (.int .i64 l.length)):=by
 refine fn0 Cd.i_size_i_Card__k λX=>?_
 repeat' first|simp -dsimp only[go_sem]|apply Br.mk<;>intro h<;>try simp -dsimp only[h]|refine aC ?_|fail
 all_goals(simp_all)
theorem aLt (l:List Int) (H:l.length<=1048576):Fz F.kM [.sl 1 (E cI l)] (.sl 1 (E cI l)):=by
 refine fn0 Cd.i_copyInts_k λX=>?_;simp -dsimp only[go_sem];exact⟨by omega,rfl,⟨rfl,by omega,by omega⟩,_,_,rfl,rfl⟩
theorem aCe (c:List Int) (H:c.length<=1048576):Fz F.jN [.agg (cC c)] (.agg (cC c)):=by
 refine fn0 Cd.i_newCard_k λX=>?_
 repeat' first|simp -dsimp only[go_sem,cC]|apply Br.mk<;>intro h<;>try simp -dsimp only[h]|refine aB.c (by first|exact aLt c H) ?_|refine aC ?_|fail
 all_goals(exact⟨_,_,rfl,rfl⟩)
theorem aEQ (l:List (List Int)) (Y:∀x,x∈l->x.length<=1048576) (U:l.length<=1048576):Vs.Fn Tryz.prog F.dE [] [.sl 1 (E cC l)] (.loc (.b 0) 0 l.length) [some (.arr 1 (E cC l) false)]:=by
 refine fn1 Cd.i_newDeck_k [.t 3 0] [.arr 1 (E cC l) false] λX=>?_;unfold Cd.dE;simp -dsimp only[go_sem];refine⟨by omega,rfl,?_⟩;refine aM.intro dM (λi:{i:Nat // i<=l.length}=>⟨[(3,.loc (.t 3 0) 0 i.1),(7,.sl 1 (E cC l)),(8,.v (.int .i64 l.length)),(9,.v (.int .i64 i.1))],[(.t 3 0,.arr 1 (E cC (l.take i.1)) false)]⟩) (λi=>l.length-i.1) ⟨0,by omega⟩ ?_ ?_
 .simp[Vs.LeL,Vs.look,aA,Vs.E]
 .rintro⟨i,hi⟩;have O:(l.take i).length=i:=by simp;omega
  simp -dsimp only[go_sem];refine Br.mk (λI=>?_) λI=>?_
  .have H:i<l.length:=by simpa using I
   have Z:=aG H U;simp -dsimp only[go_sem,aN H];refine⟨⟨by omega,by omega⟩,by simp[cC],?_⟩;simp -dsimp only[go_sem,cC];have J:E cC (l.take i)++[[.sl 1 (E cI l[i])]]=E cC (l.take (i+1)):=by rw[aY H,bH];rfl
   refine aB.pure (aCe l[i] (Y _ (Aa H))) ?_;simp -dsimp only[go_sem,cC,O,aH,J,Z,Af,Ag,Al,Aq];exact⟨by omega,⟨rfl,by omega,by omega⟩,rfl,⟨i+1,by omega⟩,by simp[Vs.LeL,Vs.look,aA],by simp only;omega⟩
  .have L:i=l.length:=by
    have:¬i<l.length:=by simpa using I
    omega
   subst L;simp -dsimp only[go_sem];exact⟨⟨[],[],rfl,by rw[Bv]⟩,by simp⟩
end Go.Proofs.YtkgeiaideklmoaaGreat
