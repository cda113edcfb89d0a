/- Decks of samples: what the reference says, what the program says. -/
import Derived.Test.YtfoddghhlagenaaGreatDoorTuB
import Derived.Test.YtfoddghhlagenaaGreatDoorVtJ
set_option linter.all false
set_option maxHeartbeats 8000000
namespace Go.Proofs.YtfoddghhlagenaaGreatDoor
open Go.Vs
section
variable [Vs.Envs]
attribute [local irreducible] Vs.Fn
def cC (c:List Int):List AV:=[.sl 1 (E cI c)]
def aT (c:List Int):Bool:=c.all (λx=>inB x 0 4095)&&inB c.length 1 20
theorem pY (c:List Int) (hc:c.length<=1048576):Fz F.oI [.ro (cC c)] (.v (.bool (aT c))):=by
 refine fn0 Cd.s_l02Ok_k λX=>?_
 simp -dsimp only[go_sem,cC]
 refine bA.intro dM (λi:{i:Nat // i<=c.length∧(c.take i).all (λx=>inB x 0 4095)=true}=>⟨[(0,.ro [.sl 1 (E cI c)]),(3,.v (.int .i64 i.1))],[]⟩) (λi=>c.length-i.1) ⟨0,by simp⟩ ?_ ?_
 .simp[Vs.LeL,Vs.look]
 .rintro⟨i,hi,hall⟩
  simp -dsimp only[go_sem]
  refine Br.mk (λh1=>?_) λh1=>?_
  .have hlt:i<c.length:=by simpa using h1
   have hw:=aQ hlt hc
   simp -dsimp only[go_sem,jI hlt]
   refine⟨⟨by omega,by omega⟩,aB.flat (xL _ _ _) rfl ?_⟩
   simp -dsimp only[go_sem]
   refine Br.mk (λh2=>?_) λh2=>?_
   .simp -dsimp only[go_sem]
    simp[aT,jY (p:=λx=>inB x 0 4095) hlt (by simpa using h2)]
   .simp -dsimp only[go_sem,hw]
    exact⟨⟨i+1,by omega,bP (p:=λx=>inB x 0 4095) hlt hall (by simpa using h2)⟩,by simp[Vs.LeL,Vs.look],by simp only;omega⟩
  .have hge:i=c.length:=by
    have:¬i<c.length:=by simpa using h1
    omega
   subst hge
   simp -dsimp only[go_sem]
   refine⟨aB.flat (xL _ _ _) rfl ?_,by simp⟩
   simp -dsimp only[go_sem]
   have:c.all (λx=>inB x 0 4095)=true:=by simpa using hall
   simp[aT,this]
end
section
variable [Vs.Envs]
attribute [local irreducible] Vs.Fn
def dO (l:List (List Int)):Bool:=l.all (λc=>aT c&&decide (c.length=(l.getD 0 []).length))&&decide (l.length<=40)
theorem kZ (l:List (List Int)) (hs:∀x,x∈l->x.length<=1048576) (hl:l.length<=1048576):Fz F.lL [.sl 1 (E cC l)] (.v (.bool (dO l))):=by
 refine fn0 Cd.s_l02Deck_k λX=>?_
 simp -dsimp only[go_sem]
 refine bA.intro dM (λi:{i:Nat // i<=l.length∧(l.take i).all (λc=>aT c&&decide (c.length=(l.getD 0 []).length))=true}=>⟨[(0,.sl 1 (E cC l)),(3,.v (.int .i64 i.1))],[]⟩) (λi=>l.length-i.1) ⟨0,by simp⟩ ?_ ?_
 .simp[Vs.LeL,Vs.look]
 .rintro⟨i,hi,hall⟩
  simp -dsimp only[go_sem]
  refine Br.mk (λh1=>?_) λh1=>?_
  .have hlt:i<l.length:=by simpa using h1
   have h0:0<l.length:=by omega
   have hw:=aQ hlt hl
   have g0:l.getD 0 []=l[0]:=by simp[List.getD,h0]
   simp -dsimp only[go_sem]
   refine RgK.mk rfl ?_
   simp -dsimp only[go_sem,bI hlt,bI h0]
   refine⟨⟨by omega,by omega⟩,aB.flat (pY l[i] (hs _ (List.getElem_mem hlt))) rfl ?_⟩
   simp -dsimp only[go_sem]
   refine Br.mk (λh2=>?_) λh2=>?_
   .simp -dsimp only[go_sem,h2]
    have e:(aT l[i]&&decide (l[i].length=(l.getD 0 []).length))=false:=by simp at h2;simp[h2]
    have hf:dO l=false:=by rw[dO,jY (p:=λc=>aT c&&decide (c.length=(l.getD 0 []).length)) hlt e];rfl
    simp[hf]
   .simp -dsimp only[go_sem,h2,bI hlt,bI h0,cC]
    refine⟨⟨by omega,by omega⟩,by omega,?_⟩
    refine Br.mk (λh3=>?_) λh3=>?_
    .simp -dsimp only[go_sem]
     have e:(aT l[i]&&decide (l[i].length=(l.getD 0 []).length))=false:=by
      rw[g0]
      have:l[i].length≠l[0].length:=by simp at h3;omega
      simp[this]
     have hf:dO l=false:=by rw[dO,jY (p:=λc=>aT c&&decide (c.length=(l.getD 0 []).length)) hlt e];rfl
     simp[hf]
    .simp -dsimp only[go_sem,hw]
     have e:(aT l[i]&&decide (l[i].length=(l.getD 0 []).length))=true:=by
      rw[g0]
      have:l[i].length=l[0].length:=by simp at h3;omega
      simp at h2
      simp[this,h2]
     exact⟨⟨i+1,by omega,bP (p:=λc=>aT c&&decide (c.length=(l.getD 0 []).length)) hlt hall e⟩,by simp[Vs.LeL,Vs.look],by simp only;omega⟩
  .have hge:i=l.length:=by
    have:¬i<l.length:=by simpa using h1
    omega
   subst hge
   simp -dsimp only[go_sem]
   have:l.all (λc=>aT c&&decide (c.length=(l.getD 0 []).length))=true:=by simpa using hall
   rw[dO,this]
   simp only[Bool.true_and,Value.bool.injEq,AV.v.injEq]
   simp
   omega
theorem aFA (l:List Int):Fz F.fG [.sl 1 (E cI l)] (.v (.int .i64 l.length)):=by
 refine fn0 Cd.i_size_int64__k λX=>?_
 repeat' first|simp -dsimp only[go_sem]|apply Br.mk<;>intro h<;>try simp -dsimp only[h]|refine aC ?_|refine aC9 ?_|fail
 all_goals(simp_all)
theorem eB (c:List Int):Fz F.aW [.agg (cC c)] (.v (.int .i64 c.length)):=by
 refine fn0 Cd._i_Card__columns_k λX=>?_
 repeat' first|simp -dsimp only[go_sem,cC]|apply Br.mk<;>intro h<;>try simp -dsimp only[h]|refine aB.c (by first|exact aFA c) ?_|refine aC ?_|refine aC9 ?_|fail
 all_goals(simp_all)
theorem aBg (x:Int):Fz F.cB [.v (.int .i64 x)] (.v (.bool (!inB x 0 4095))):=by
 refine fn0 Cd.i_ValidCard_1_k λX=>?_
 repeat' first|simp -dsimp only[go_sem]|apply Br.mk<;>intro h<;>try simp -dsimp only[h]|refine aB.c (by first|exact inside _ _ _) ?_|refine aC ?_|refine aC9 ?_|fail
 all_goals(simp_all)
theorem idxI (l:List Int) (hl:l.length<=1048576):Fz F.fF [.sl 1 (E cI l),.fn F.cB []] (.v (.int .i64 (uV (λx=>!inB x 0 4095) l))):=
 aBs Tryz.mixed Cd.ixf_int64_k.o Cd.ixf_int64_k.n Cd.ixf_int64_k.r rfl (λx=>!inB x 0 4095) F.cB [] rfl (λx hx=>aBg x) hl
theorem conI (l:List Int) (hl:l.length<=1048576):Fz F.gV [.sl 1 (E cI l),.fn F.cB []] (.v (.bool (l.any (λx=>!inB x 0 4095)))):=
 aCl Tryz.mixed (g:=F.fF) Cd.ctf_int64_k.o Cd.ctf_int64_k.n Cd.ctf_int64_k.r rfl (λx=>!inB x 0 4095) F.cB [] rfl (idxI l hl)
theorem aEK (l:List Int) (p:Int->Bool):(!(l.any λx=>!p x))=l.all p:=by
 induction l with
 |nil=>rfl
 |cons x r ih=>simp only[List.any_cons,List.all_cons,Bool.not_or,Bool.not_not,ih]
theorem dV (c:List Int) (hc:c.length<=1048576):Fz F.eP [.agg (cC c)] (.v (.bool (aT c))):=by
 refine fn0 Cd.i_ValidCard_k λX=>?_
 repeat' first|simp -dsimp only[go_sem,cC]|apply Br.mk<;>intro h<;>try simp -dsimp only[h]|refine aB.c (by first|exact eB c|exact inside _ _ _|exact conI c hc) ?_|refine aC ?_|refine aC9 ?_|fail
 all_goals(first|(refine fT ?_;have e:=aEK c (λx=>inB x 0 4095);simp_all [aT];done)|(simp_all [aT];done))
end
end Go.Proofs.YtfoddghhlagenaaGreatDoor
