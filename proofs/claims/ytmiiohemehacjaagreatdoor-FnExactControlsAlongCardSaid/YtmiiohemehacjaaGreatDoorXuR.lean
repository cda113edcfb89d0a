/- Decks of samples: what the reference says, what the program says. -/
import Derived.Test.YtmiiohemehacjaaGreatDoorXuB
import Derived.Test.YtmiiohemehacjaaGreatDoorVtJ
set_option linter.all false
set_option maxHeartbeats 8000000
namespace Go.Proofs.YtmiiohemehacjaaGreatDoor
open Go.Vs
section
variable [Vs.Envs]
attribute [local irreducible] Vs.Fn
def cC (c:List Int):List AV:=[.sl 1 (E cI c)]
def cD (d:List (List Int)):List AV:=[.sl 1 (E cC d)]
theorem aJH (l:List Int) (n:Int):Fz F.rY [.sl 1 (E cI l),.v (.int .i64 n)] (.v (.int .i64 (szI l n))):=
 aM0 Tryz.mixed Cd.l_szInt64S_k.o Cd.l_szInt64S_k.n Cd.l_szInt64S_k.r rfl l n
theorem aJB {l:List Int} (H:l.length<=1048576):Fz F.nQ [.sl 1 (E cI l)] (.sl 1 (E cI l)):=
 aMX Tryz.mixed Cd.l_toInt64S_k.o Cd.l_toInt64S_k.n Cd.l_toInt64S_k.r rfl H
theorem aKS {l:List Int} (H:l.length<=1048576):Fz F.sD [.sl 1 (E cI l),.sl 1 (E cI l)] (.v (.bool true)):=
 aNy Tryz.mixed Cd.l_eqInt64S_k.o Cd.l_eqInt64S_k.n Cd.l_eqInt64S_k.r rfl H
theorem aHG {l:List Int}{n:Int} (h:szI l n<0):szI l n=-1:=by
 unfold szI at h⊢;split
 .rfl
 .rename_i F;rw[if_neg F] at h;exact absurd h F
theorem aM1 (c:List Int) (n:Int):Fz F.vD [.agg (cC c),.v (.int .i64 n)] (.v (.int .i64 (szI c n))):=by
 refine fn0 Cd.l_szCard_k λX=>?_
 repeat' first|simp -dsimp only[go_sem,cC]|apply Br.mk<;>intro h<;>try simp -dsimp only[h]|refine aD.c (by first|exact aJH c _) ?_|refine aC ?_|fail
 all_goals(first|(simp_all [aHG];done)|(refine aU ?_;rw[aHG (by simpa using by assumption)]))
theorem aLu (l:List (List Int)) (n:Int) (L:∀x,x∈l->x.length<2 ^ 63) (J:l.length<2 ^ 63) (H:0<=n∧n<=1048576):Fz F.qU [.sl 1 (E cC l),.v (.int .i64 n)] (.v (.int .i64 (szL szI l n))):=
 aGB Tryz.mixed (k:=1) (c:=cC) (g:=F.vD) Cd.l_szCardS_k.o Cd.l_szCardS_k.n Cd.l_szCardS_k.r rfl szI (λ_=>rfl) (λ_=>rfl) (λx _ n _ _=>aM1 x n) (λx O n I H h=>(aGD (L x O) I H h).1) n J H
theorem aMY (c:List Int) (H:c.length<=1048576):Fz F.mR [.agg (cC c)] (.agg (cC c)):=by
 refine fn0 Cd.l_toCard_k λX=>?_
 repeat' first|simp -dsimp only[go_sem,cC]|apply Br.mk<;>intro h<;>try simp -dsimp only[h]|refine aD.c (by first|exact aJB H) ?_|refine aC ?_|fail
 all_goals(exact⟨_,_,rfl,rfl⟩)
theorem aLp (l:List (List Int)) (I:∀x,x∈l->x.length<=1048576) (H:l.length<=1048576):Fz F.jC [.sl 1 (E cC l)] (.sl 1 (E cC l)):=
 aGy Tryz.mixed (k:=1) (y:=24) (c:=cC) (z:=[.v (.slice none 0 0)]) (g:=F.mR) Cd.l_toCardS_k.o Cd.l_toCardS_k.n Cd.l_toCardS_k.r rfl (λ_=>rfl) (by omega) rfl rfl (λ_=>rfl) (λx J=>aMY x (I x J)) H (by omega)
theorem aNz (c:List Int) (H:c.length<=1048576):Fz F.vG [.agg (cC c),.agg (cC c)] (.v (.bool true)):=by
 refine fn0 Cd.l_eqCard_k λX=>?_
 repeat' first|simp -dsimp only[go_sem,cC]|apply Br.mk<;>intro h<;>try simp -dsimp only[h]|refine aD.c (by first|exact aKS H) ?_|refine aC ?_|fail
 all_goals(simp_all)
theorem aMj (l:List (List Int)) (I:∀x,x∈l->x.length<=1048576) (H:l.length<=1048576):Fz F.qX [.sl 1 (E cC l),.sl 1 (E cC l)] (.v (.bool true)):=
 aET Tryz.mixed (k:=1) (c:=cC) (g:=F.vG) Cd.l_eqCardS_k.o Cd.l_eqCardS_k.n Cd.l_eqCardS_k.r rfl (λ_=>rfl) (λ_=>rfl) (λx J=>aNz x (I x J)) H
def gL (c:List Int):Bool:=c.all (λx=>inB x 0 4095)&&inB c.length 1 20
theorem l02Ok (c:List Int) (hc:c.length<=1048576):Fz F.aAs [.ro (cC c)] (.v (.bool (gL c))):=by
 refine fn0 Cd.s_l02Ok_k λX=>?_;simp -dsimp only[go_sem,cC];refine aN.intro dM (λi:{i:Nat // i<=c.length∧(c.take i).all (λx=>inB x 0 4095)=true}=>⟨[(0,.ro [.sl 1 (E cI c)]),(3,.v (.int .i64 i.1))],[]⟩) (λi=>c.length-i.1) ⟨0,by simp⟩ ?_ ?_
 .simp[Vs.LeL,Vs.look]
 .rintro⟨i,hi,hall⟩;simp -dsimp only[go_sem];refine Br.mk (λh1=>?_) λh1=>?_
  .have hlt:i<c.length:=by simpa using h1
   have hw:=aH hlt hc;simp -dsimp only[go_sem,bY hlt];refine⟨⟨by omega,by omega⟩,aD.flat (zI _ _ _) rfl ?_⟩;simp -dsimp only[go_sem];refine Br.mk (λh2=>?_) λh2=>?_
   .simp -dsimp only[go_sem];simp[gL,gG (p:=λx=>inB x 0 4095) hlt (by simpa using h2)]
   .simp -dsimp only[go_sem,hw];exact⟨⟨i+1,by omega,aX (p:=λx=>inB x 0 4095) hlt hall (by simpa using h2)⟩,by simp[Vs.LeL,Vs.look],by simp only;omega⟩
  .have hge:i=c.length:=by
    have:¬i<c.length:=by simpa using h1
    omega
   subst hge;simp -dsimp only[go_sem];refine⟨aD.flat (zI _ _ _) rfl ?_,by simp⟩;simp -dsimp only[go_sem];have:c.all (λx=>inB x 0 4095)=true:=by simpa using hall
   simp[gL,this]
end
section
variable [Vs.Envs]
attribute [local irreducible] Vs.Fn
def bA (l:List (List Int)):Bool:=l.all (λc=>gL c&&decide (c.length=(l.getD 0 []).length))&&decide (l.length<=40)
theorem cB (l:List (List Int)) (hs:∀x,x∈l->x.length<=1048576) (hl:l.length<=1048576):Fz F.kI [.sl 1 (E cC l)] (.v (.bool (bA l))):=by
 refine fn0 Cd.s_l02Deck_k λX=>?_;simp -dsimp only[go_sem];refine aN.intro dM (λi:{i:Nat // i<=l.length∧(l.take i).all (λc=>gL c&&decide (c.length=(l.getD 0 []).length))=true}=>⟨[(0,.sl 1 (E cC l)),(3,.v (.int .i64 i.1))],[]⟩) (λi=>l.length-i.1) ⟨0,by simp⟩ ?_ ?_
 .simp[Vs.LeL,Vs.look]
 .rintro⟨i,hi,hall⟩;simp -dsimp only[go_sem];refine Br.mk (λh1=>?_) λh1=>?_
  .have hlt:i<l.length:=by simpa using h1
   have h0:0<l.length:=by omega
   have hw:=aH hlt hl;have g0:l.getD 0 []=l[0]:=by simp[List.getD,h0]
   simp -dsimp only[go_sem];refine RgK.mk rfl ?_;simp -dsimp only[go_sem,aQ hlt,aQ h0];refine⟨⟨by omega,by omega⟩,aD.flat (l02Ok l[i] (hs _ (List.getElem_mem hlt))) rfl ?_⟩;simp -dsimp only[go_sem];refine Br.mk (λh2=>?_) λh2=>?_
   .simp -dsimp only[go_sem,h2];have e:(gL l[i]&&decide (l[i].length=(l.getD 0 []).length))=false:=by simp at h2;simp[h2]
    have hf:bA l=false:=by rw[bA,gG (p:=λc=>gL c&&decide (c.length=(l.getD 0 []).length)) hlt e];rfl
    simp[hf]
   .simp -dsimp only[go_sem,h2,aQ hlt,aQ h0,cC];refine⟨⟨by omega,by omega⟩,by omega,?_⟩;refine Br.mk (λh3=>?_) λh3=>?_
    .simp -dsimp only[go_sem]
     have e:(gL l[i]&&decide (l[i].length=(l.getD 0 []).length))=false:=by
      rw[g0];have:l[i].length≠l[0].length:=by simp at h3;omega
      simp[this]
     have hf:bA l=false:=by rw[bA,gG (p:=λc=>gL c&&decide (c.length=(l.getD 0 []).length)) hlt e];rfl
     simp[hf]
    .simp -dsimp only[go_sem,hw]
     have e:(gL l[i]&&decide (l[i].length=(l.getD 0 []).length))=true:=by
      rw[g0];have:l[i].length=l[0].length:=by simp at h3;omega
      simp at h2;simp[this,h2]
     exact⟨⟨i+1,by omega,aX (p:=λc=>gL c&&decide (c.length=(l.getD 0 []).length)) hlt hall e⟩,by simp[Vs.LeL,Vs.look],by simp only;omega⟩
  .have hge:i=l.length:=by
    have:¬i<l.length:=by simpa using h1
    omega
   subst hge;simp -dsimp only[go_sem];have:l.all (λc=>gL c&&decide (c.length=(l.getD 0 []).length))=true:=by simpa using hall
   rw[bA,this];simp only[Bool.true_and,Value.bool.injEq,AV.v.injEq];simp;omega
theorem sizeI (l:List Int):Fz F.kY [.sl 1 (E cI l)] (.v (.int .i64 l.length)):=by
 refine fn0 Cd.i_size_int64__k λX=>?_
 repeat' first|simp -dsimp only[go_sem]|apply Br.mk<;>intro h<;>try simp -dsimp only[h]|refine aC ?_|fail
 all_goals(simp_all)
theorem nA (c:List Int):Fz F.bN [.agg (cC c)] (.v (.int .i64 c.length)):=by
 refine fn0 Cd._i_Card__columns_k λX=>?_
 repeat' first|simp -dsimp only[go_sem,cC]|apply Br.mk<;>intro h<;>try simp -dsimp only[h]|refine aD.c (by first|exact sizeI c) ?_|refine aC ?_|fail
 all_goals(simp_all)
theorem aGw (x:Int):Fz F.dP [.v (.int .i64 x)] (.v (.bool (!inB x 0 4095))):=by
 refine fn0 Cd.i_ValidCard_1_k λX=>?_
 repeat' first|simp -dsimp only[go_sem]|apply Br.mk<;>intro h<;>try simp -dsimp only[h]|refine aD.c (by first|exact inside _ _ _) ?_|refine aC ?_|fail
 all_goals(simp_all)
theorem idxI (l:List Int) (H:l.length<=1048576):Fz F.jD [.sl 1 (E cI l),.fn F.dP []] (.v (.int .i64 (uH (λx=>!inB x 0 4095) l))):=
 aG2 Tryz.mixed Cd.ixf_int64_k.o Cd.ixf_int64_k.n Cd.ixf_int64_k.r rfl (λx=>!inB x 0 4095) F.dP [] rfl (λx I=>aGw x) H
theorem conI (l:List Int) (H:l.length<=1048576):Fz F.kP [.sl 1 (E cI l),.fn F.dP []] (.v (.bool (l.any (λx=>!inB x 0 4095)))):=
 aGe Tryz.mixed (g:=F.jD) Cd.ctf_int64_k.o Cd.ctf_int64_k.n Cd.ctf_int64_k.r rfl (λx=>!inB x 0 4095) F.dP [] rfl (idxI l H)
theorem aLe (l:List Int) (p:Int->Bool):(!(l.any λx=>!p x))=l.all p:=by
 induction l with
 |nil=>rfl
 |cons x r ih=>simp only[List.any_cons,List.all_cons,Bool.not_or,Bool.not_not,ih]
theorem aIz (c:List Int) (H:c.length<=1048576):Fz F.pQ [.agg (cC c)] (.v (.bool (gL c))):=by
 refine fn0 Cd.i_ValidCard_k λX=>?_
 repeat' first|simp -dsimp only[go_sem,cC]|apply Br.mk<;>intro h<;>try simp -dsimp only[h]|refine aD.c (by first|exact nA c|exact inside _ _ _|exact conI c H) ?_|refine aC ?_|fail
 all_goals(first|(refine aU ?_;have e:=aLe c (λx=>inB x 0 4095);simp_all [gL];done)|(simp_all [gL];done))
end
end Go.Proofs.YtmiiohemehacjaaGreatDoor
