/- Decks of samples: what the reference says, what the program says. -/
import Derived.Test.YtklmdppgonhflaaGreatDoorXuB
import Derived.Test.YtklmdppgonhflaaGreatDoorVtJ
set_option linter.all false
set_option maxHeartbeats 8000000
namespace Go.Proofs.YtklmdppgonhflaaGreatDoor
open Go.Vs
section
variable [Vs.Envs]
attribute [local irreducible] Vs.Fn
def cC (c:List Int):List AV:=[.sl 1 (E cI c)]
def cD (d:List (List Int)):List AV:=[.sl 1 (E cC d)]
def fC (c:List Int):Bool:=c.all (λx=>inB x 0 4095)&&inB c.length 1 20
theorem l02Ok (c:List Int) (hc:c.length<=1048576):Fz F.aA0 [.ro (cC c)] (.v (.bool (fC c))):=by
 refine fn0 Cd.s_l02Ok_k λX=>?_;simp -dsimp only[go_sem,cC];refine aP.intro dM (λi:{i:Nat // i<=c.length∧(c.take i).all (λx=>inB x 0 4095)=true}=>⟨[(0,.ro [.sl 1 (E cI c)]),(3,.v (.int .i64 i.1))],[]⟩) (λi=>c.length-i.1) ⟨0,by simp⟩ ?_ ?_
 .simp[Vs.LeL,Vs.look]
 .rintro⟨i,hi,hall⟩;simp -dsimp only[go_sem];refine Br.mk (λh1=>?_) λh1=>?_
  .have hlt:i<c.length:=by simpa using h1
   have hw:=aJ hlt hc;simp -dsimp only[go_sem,dI hlt];refine⟨⟨by omega,by omega⟩,aA.flat (yV _ _ _) rfl ?_⟩;simp -dsimp only[go_sem];refine Br.mk (λh2=>?_) λh2=>?_
   .simp -dsimp only[go_sem];simp[fC,iK (p:=λx=>inB x 0 4095) hlt (by simpa using h2)]
   .simp -dsimp only[go_sem,hw];exact⟨⟨i+1,by omega,bH (p:=λx=>inB x 0 4095) hlt hall (by simpa using h2)⟩,by simp[Vs.LeL,Vs.look],by simp only;omega⟩
  .have hge:i=c.length:=by
    have:¬i<c.length:=by simpa using h1
    omega
   subst hge;simp -dsimp only[go_sem];refine⟨aA.flat (yV _ _ _) rfl ?_,by simp⟩;simp -dsimp only[go_sem];have:c.all (λx=>inB x 0 4095)=true:=by simpa using hall
   simp[fC,this]
end
section
variable [Vs.Envs]
attribute [local irreducible] Vs.Fn
def bC (l:List (List Int)):Bool:=l.all (λc=>fC c&&decide (c.length=(l.getD 0 []).length))&&decide (l.length<=40)
theorem dC (l:List (List Int)) (hs:∀x,x∈l->x.length<=1048576) (hl:l.length<=1048576):Fz F.jZ [.sl 1 (E cC l)] (.v (.bool (bC l))):=by
 refine fn0 Cd.s_l02Deck_k λX=>?_;simp -dsimp only[go_sem];refine aP.intro dM (λi:{i:Nat // i<=l.length∧(l.take i).all (λc=>fC c&&decide (c.length=(l.getD 0 []).length))=true}=>⟨[(0,.sl 1 (E cC l)),(3,.v (.int .i64 i.1))],[]⟩) (λi=>l.length-i.1) ⟨0,by simp⟩ ?_ ?_
 .simp[Vs.LeL,Vs.look]
 .rintro⟨i,hi,hall⟩;simp -dsimp only[go_sem];refine Br.mk (λh1=>?_) λh1=>?_
  .have hlt:i<l.length:=by simpa using h1
   have h0:0<l.length:=by omega
   have hw:=aJ hlt hl;have g0:l.getD 0 []=l[0]:=by simp[List.getD,h0]
   simp -dsimp only[go_sem];refine RgK.mk rfl ?_;simp -dsimp only[go_sem,aW hlt,aW h0];refine⟨⟨by omega,by omega⟩,aA.flat (l02Ok l[i] (hs _ (Aa hlt))) rfl ?_⟩;simp -dsimp only[go_sem];refine Br.mk (λh2=>?_) λh2=>?_
   .simp -dsimp only[go_sem,h2];have e:(fC l[i]&&decide (l[i].length=(l.getD 0 []).length))=false:=by simp at h2;simp[h2]
    have hf:bC l=false:=by rw[bC,iK (p:=λc=>fC c&&decide (c.length=(l.getD 0 []).length)) hlt e];rfl
    simp[hf]
   .simp -dsimp only[go_sem,h2,aW hlt,aW h0,cC];refine⟨⟨by omega,by omega⟩,by omega,?_⟩;refine Br.mk (λh3=>?_) λh3=>?_
    .simp -dsimp only[go_sem]
     have e:(fC l[i]&&decide (l[i].length=(l.getD 0 []).length))=false:=by
      rw[g0];have:l[i].length≠l[0].length:=by simp at h3;omega
      simp[this]
     have hf:bC l=false:=by rw[bC,iK (p:=λc=>fC c&&decide (c.length=(l.getD 0 []).length)) hlt e];rfl
     simp[hf]
    .simp -dsimp only[go_sem,hw]
     have e:(fC l[i]&&decide (l[i].length=(l.getD 0 []).length))=true:=by
      rw[g0];have:l[i].length=l[0].length:=by simp at h3;omega
      simp at h2;simp[this,h2]
     exact⟨⟨i+1,by omega,bH (p:=λc=>fC c&&decide (c.length=(l.getD 0 []).length)) hlt hall e⟩,by simp[Vs.LeL,Vs.look],by simp only;omega⟩
  .have hge:i=l.length:=by
    have:¬i<l.length:=by simpa using h1
    omega
   subst hge;simp -dsimp only[go_sem];have:l.all (λc=>fC c&&decide (c.length=(l.getD 0 []).length))=true:=by simpa using hall
   rw[bC,this];simp only[CW,Value.bool.injEq,AV.v.injEq];simp;omega
theorem sizeI (l:List Int):Fz F.mQ [.sl 1 (E cI l)] (.v (.int .i64 l.length)):=by
 refine fn0 Cd.i_size_int64__k λX=>?_
 repeat' first|simp -dsimp only[go_sem]|apply Br.mk<;>intro h<;>try simp -dsimp only[h]|refine aC ?_|refine aC9 ?_|fail
 all_goals(simp_all)
theorem o5 (c:List Int):Fz F.bW [.agg (cC c)] (.v (.int .i64 c.length)):=by
 refine fn0 Cd._i_Card__columns_k λX=>?_
 repeat' first|simp -dsimp only[go_sem,cC]|apply Br.mk<;>intro h<;>try simp -dsimp only[h]|refine aA.c (by first|exact sizeI c) ?_|refine aC ?_|refine aC9 ?_|fail
 all_goals(simp_all)
theorem aG2 (x:Int):Fz F.eT [.v (.int .i64 x)] (.v (.bool (!inB x 0 4095))):=by
 refine fn0 Cd.i_ValidCard_1_k λX=>?_
 repeat' first|simp -dsimp only[go_sem]|apply Br.mk<;>intro h<;>try simp -dsimp only[h]|refine aA.c (by first|exact inside _ _ _) ?_|refine aC ?_|refine aC9 ?_|fail
 all_goals(simp_all)
theorem idxI (l:List Int) (G:l.length<=1048576):Fz F.kF [.sl 1 (E cI l),.fn F.eT []] (.v (.int .i64 (uW (λx=>!inB x 0 4095) l))):=
 aHy Tryz.mixed Cd.ixf_int64_k.o Cd.ixf_int64_k.n Cd.ixf_int64_k.r rfl (λx=>!inB x 0 4095) F.eT [] rfl (λx H=>aG2 x) G
theorem conI (l:List Int) (G:l.length<=1048576):Fz F.l6 [.sl 1 (E cI l),.fn F.eT []] (.v (.bool (l.any (λx=>!inB x 0 4095)))):=
 aGJ Tryz.mixed (g:=F.kF) Cd.ctf_int64_k.o Cd.ctf_int64_k.n Cd.ctf_int64_k.r rfl (λx=>!inB x 0 4095) F.eT [] rfl (idxI l G)
theorem aMa (l:List Int) (p:Int->Bool):(!(l.any λx=>!p x))=l.all p:=by
 induction l with
 |nil=>rfl
 |cons x r ih=>simp only[List.any_cons,BJ,Bool.not_or,Bool.not_not,ih]
theorem aJb (c:List Int) (G:c.length<=1048576):Fz F.rC [.agg (cC c)] (.v (.bool (fC c))):=by
 refine fn0 Cd.i_ValidCard_k λX=>?_
 repeat' first|simp -dsimp only[go_sem,cC]|apply Br.mk<;>intro h<;>try simp -dsimp only[h]|refine aA.c (by first|exact o5 c|exact inside _ _ _|exact conI c G) ?_|refine aC ?_|refine aC9 ?_|fail
 all_goals(first|(refine aR ?_;have e:=aMa c (λx=>inB x 0 4095);simp_all [fC];done)|(simp_all [fC];done))
end
end Go.Proofs.YtklmdppgonhflaaGreatDoor
