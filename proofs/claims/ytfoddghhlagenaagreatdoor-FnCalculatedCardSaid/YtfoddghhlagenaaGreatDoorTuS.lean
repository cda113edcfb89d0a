/- The program's decks of samples. -/
import Derived.Test.YtfoddghhlagenaaGreatDoorTuR
set_option linter.all false
set_option maxHeartbeats 8000000
namespace Go.Proofs.YtfoddghhlagenaaGreatDoor
open Go.Vs
variable [Vs.Envs]
attribute [local irreducible] Vs.Fn
theorem iP (l:List (List Int)) (hs:∀x,x∈l->x.length<=1048576) (hl:l.length<=1048576):Fz F.iX [.sl 1 (E cC l)] (.v (.bool (dO l))):=by
 refine fn0 Cd.i_ValidDeck_k λX=>?_
 simp -dsimp only[go_sem]
 refine bA.intro dM (λi:{i:Nat // i<=l.length∧(l.take i).all (λc=>aT c&&decide (c.length=(l.getD 0 []).length))=true}=>⟨[(0,.sl 1 (E cC l)),(5,.sl 1 (E cC l)),(6,.v (.int .i64 l.length)),(7,.v (.int .i64 i.1))],[]⟩) (λi=>l.length-i.1) ⟨0,by simp⟩ ?_ ?_
 .simp[Vs.LeL,Vs.look]
 .rintro⟨i,hi,hall⟩
  simp -dsimp only[go_sem]
  refine Br.mk (λh1=>?_) λh1=>?_
  .have hlt:i<l.length:=by simpa using h1
   have h0:0<l.length:=by omega
   have hw:=aQ hlt hl
   have g0:l.getD 0 []=l[0]:=by simp[List.getD,h0]
   simp -dsimp only[go_sem,bI hlt,bI h0]
   refine⟨⟨by omega,by omega⟩,by first|omega|decide|simp[cC],?_⟩
   simp -dsimp only[go_sem,cC,bI hlt]
   refine RgK.mk rfl ?_
   simp -dsimp only[go_sem,cC,bI hlt]
   refine aB.flat (dV l[i] (hs _ (List.getElem_mem hlt))) rfl ?_
   simp -dsimp only[go_sem,cC,bI hlt]
   refine Br.mk (λh2=>?_) λh2=>?_
   .simp -dsimp only[go_sem,h2]
    have e:(aT l[i]&&decide (l[i].length=(l.getD 0 []).length))=false:=by simp at h2;simp[h2]
    have hf:dO l=false:=by rw[dO,jY (p:=λc=>aT c&&decide (c.length=(l.getD 0 []).length)) hlt e];rfl
    simp[hf]
   .simp -dsimp only[go_sem,cC,h2,bI hlt,bI h0]
    refine aB.flat (eB l[i]) rfl ?_
    simp -dsimp only[go_sem,cC,h2,bI hlt,bI h0]
    refine⟨⟨by omega,by omega⟩,?_⟩
    refine aB.flat (eB l[0]) rfl ?_
    simp -dsimp only[go_sem,cC,h2,bI hlt,bI h0]
    refine Br.mk (λh3=>?_) λh3=>?_
    .simp -dsimp only[go_sem]
     have e:(aT l[i]&&decide (l[i].length=(l.getD 0 []).length))=false:=by
      rw[g0]
      have:l[i].length≠l[0].length:=by simp at h3;omega
      simp[this]
     have hf:dO l=false:=by rw[dO,jY (p:=λc=>aT c&&decide (c.length=(l.getD 0 []).length)) hlt e];rfl
     simp[hf]
    .simp -dsimp only[go_sem,hw]
     have e:(aT l[i]&&decide (l[i].length=(l.getD 0 []).length))=true:=by
      rw[g0]
      have:l[i].length=l[0].length:=by simp at h3;omega
      simp at h2
      simp[this,h2]
     exact⟨⟨i+1,by omega,bP (p:=λc=>aT c&&decide (c.length=(l.getD 0 []).length)) hlt hall e⟩,by simp[Vs.LeL,Vs.look],by simp only;omega⟩
  .have hge:i=l.length:=by
    have:¬i<l.length:=by simpa using h1
    omega
   subst hge
   simp -dsimp only[go_sem]
   have:l.all (λc=>aT c&&decide (c.length=(l.getD 0 []).length))=true:=by simpa using hall
   rw[dO,this]
   simp only[Bool.true_and,Value.bool.injEq,AV.v.injEq]
   simp
   omega
theorem aEv (l:List Int) (hl:l.length<=1048576):Fz F.gG [.sl 1 (E cI l)] (.sl 1 (E cI l)):=by
 refine fn0 Cd.i_copyInts_k λX=>?_
 simp -dsimp only[go_sem]
 exact⟨by omega,rfl,⟨rfl,by omega,by omega⟩,_,_,rfl,rfl⟩
theorem newCard (c:List Int) (hc:c.length<=1048576):Fz F.jS [.agg (cC c)] (.agg (cC c)):=by
 refine fn0 Cd.i_newCard_k λX=>?_
 repeat' first|simp -dsimp only[go_sem,cC]|apply Br.mk<;>intro h<;>try simp -dsimp only[h]|refine aB.c (by first|exact aEv c hc) ?_|refine aC ?_|refine aC9 ?_|fail
 all_goals(exact⟨_,_,rfl,rfl⟩)
end Go.Proofs.YtfoddghhlagenaaGreatDoor
