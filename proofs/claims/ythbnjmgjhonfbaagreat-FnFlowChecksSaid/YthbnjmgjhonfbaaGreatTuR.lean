/- Decks of samples: what the reference says, what the program says. -/
import Derived.Test.YthbnjmgjhonfbaaGreatTuB
import Derived.Test.YthbnjmgjhonfbaaGreatVtJ
set_option linter.all false
set_option maxHeartbeats 8000000
namespace Go.Proofs.YthbnjmgjhonfbaaGreat
open Go.Vs
section
variable [Vs.Envs]
attribute [local irreducible] Vs.Fn
def cC (c:List Int):List AV:=[.sl 1 (E cI c)]
def cD (d:List (List Int)):List AV:=[.sl 1 (E cC d)]
def gM (c:List Int):Bool:=c.all (fun x=>inB x 0 4095)&&inB c.length 1 20
theorem l02Ok (c:List Int) (hc:c.length≤1048576):Fz F.zY [.ro (cC c)] (.v (.bool (gM c))):=by
 refine fn0 Cd.s_l02Ok_k fun X=>?_;simp -dsimp only[go_sem,cC];refine aN.intro dM (fun i:{i:Nat // i≤c.length∧(c.take i).all (fun x=>inB x 0 4095)=true}=>⟨[(0,.ro [.sl 1 (E cI c)]),(3,.v (.int .i64 i.1))],[]⟩) (fun i=>c.length-i.1) ⟨0,by simp⟩ ?_ ?_
 ·simp[Vs.LeL,Vs.look]
 ·rintro⟨i,hi,hall⟩;simp -dsimp only[go_sem];refine Br.mk (fun h1=>?_) fun h1=>?_
  ·have hlt:i<c.length:=by simpa using h1
   have hw:=aG hlt hc;simp -dsimp only[go_sem,dK hlt];refine⟨⟨by omega,by omega⟩,aA.flat (yO _ _ _) rfl ?_⟩;simp -dsimp only[go_sem];refine Br.mk (fun h2=>?_) fun h2=>?_
   ·simp -dsimp only[go_sem];simp[gM,gJ (p:=fun x=>inB x 0 4095) hlt (by simpa using h2)]
   ·simp -dsimp only[go_sem,hw];exact⟨⟨i+1,by omega,bE (p:=fun x=>inB x 0 4095) hlt hall (by simpa using h2)⟩,by simp[Vs.LeL,Vs.look],by simp only;omega⟩
  ·have hge:i=c.length:=by
    have:¬i<c.length:=by simpa using h1
    omega
   subst hge;simp -dsimp only[go_sem];refine⟨aA.flat (yO _ _ _) rfl ?_,by simp⟩;simp -dsimp only[go_sem];have:c.all (fun x=>inB x 0 4095)=true:=by simpa using hall
   simp[gM,this]
end
section
variable [Vs.Envs]
attribute [local irreducible] Vs.Fn
def aS (l:List (List Int)):Bool:=l.all (fun c=>gM c&&decide (c.length=(l.getD 0 []).length))&&decide (l.length≤40)
theorem dG (l:List (List Int)) (hs:∀x,x∈l→x.length≤1048576) (hl:l.length≤1048576):Fz F.iR [.sl 1 (E cC l)] (.v (.bool (aS l))):=by
 refine fn0 Cd.s_l02Deck_k fun X=>?_;simp -dsimp only[go_sem];refine aN.intro dM (fun i:{i:Nat // i≤l.length∧(l.take i).all (fun c=>gM c&&decide (c.length=(l.getD 0 []).length))=true}=>⟨[(0,.sl 1 (E cC l)),(3,.v (.int .i64 i.1))],[]⟩) (fun i=>l.length-i.1) ⟨0,by simp⟩ ?_ ?_
 ·simp[Vs.LeL,Vs.look]
 ·rintro⟨i,hi,hall⟩;simp -dsimp only[go_sem];refine Br.mk (fun h1=>?_) fun h1=>?_
  ·have hlt:i<l.length:=by simpa using h1
   have h0:0<l.length:=by omega
   have hw:=aG hlt hl;have g0:l.getD 0 []=l[0]:=by simp[List.getD,h0]
   simp -dsimp only[go_sem];refine RgK.mk rfl ?_;simp -dsimp only[go_sem,aX hlt,aX h0];refine⟨⟨by omega,by omega⟩,aA.flat (l02Ok l[i] (hs _ (List.getElem_mem hlt))) rfl ?_⟩;simp -dsimp only[go_sem];refine Br.mk (fun h2=>?_) fun h2=>?_
   ·simp -dsimp only[go_sem,h2];have e:(gM l[i]&&decide (l[i].length=(l.getD 0 []).length))=false:=by simp at h2;simp[h2]
    have hf:aS l=false:=by rw[aS,gJ (p:=fun c=>gM c&&decide (c.length=(l.getD 0 []).length)) hlt e];rfl
    simp[hf]
   ·simp -dsimp only[go_sem,h2,aX hlt,aX h0,cC];refine⟨⟨by omega,by omega⟩,by omega,?_⟩;refine Br.mk (fun h3=>?_) fun h3=>?_
    ·simp -dsimp only[go_sem]
     have e:(gM l[i]&&decide (l[i].length=(l.getD 0 []).length))=false:=by
      rw[g0];have:l[i].length≠l[0].length:=by simp at h3;omega
      simp[this]
     have hf:aS l=false:=by rw[aS,gJ (p:=fun c=>gM c&&decide (c.length=(l.getD 0 []).length)) hlt e];rfl
     simp[hf]
    ·simp -dsimp only[go_sem,hw]
     have e:(gM l[i]&&decide (l[i].length=(l.getD 0 []).length))=true:=by
      rw[g0];have:l[i].length=l[0].length:=by simp at h3;omega
      simp at h2;simp[this,h2]
     exact⟨⟨i+1,by omega,bE (p:=fun c=>gM c&&decide (c.length=(l.getD 0 []).length)) hlt hall e⟩,by simp[Vs.LeL,Vs.look],by simp only;omega⟩
  ·have hge:i=l.length:=by
    have:¬i<l.length:=by simpa using h1
    omega
   subst hge;simp -dsimp only[go_sem];have:l.all (fun c=>gM c&&decide (c.length=(l.getD 0 []).length))=true:=by simpa using hall
   rw[aS,this];simp only[Bool.true_and,Value.bool.injEq,AV.v.injEq];simp;omega
def aEq (l:List (List Int)):Bool:=aS l&&inB l.length 1 5
def pO (l:List (List Int)) (n:Int):Int:=if aEq l then(if inB n 0 3 then 0 else 2) else 1
theorem aLq (l:List Int):Fz F.iJ [.sl 1 (E cI l)] (.v (.int .i64 l.length)):=by
 refine fn0 Cd.i_size_int64__k fun X=>?_
 repeat' first|simp -dsimp only[go_sem]|apply Br.mk<;>intro h<;>try simp -dsimp only[h]|refine aC ?_|fail
 all_goals(simp_all)
theorem qC (c:List Int):Fz F.dA [.agg (cC c)] (.v (.int .i64 c.length)):=by
 refine fn0 Cd._i_Card__columns_k fun X=>?_
 repeat' first|simp -dsimp only[go_sem,cC]|apply Br.mk<;>intro h<;>try simp -dsimp only[h]|refine aA.c (by first|exact aLq c) ?_|refine aC ?_|fail
 all_goals(simp_all)
theorem aFu (x:Int):Fz F.eG [.v (.int .i64 x)] (.v (.bool (!inB x 0 4095))):=by
 refine fn0 Cd.i_ValidCard_1_k fun X=>?_
 repeat' first|simp -dsimp only[go_sem]|apply Br.mk<;>intro h<;>try simp -dsimp only[h]|refine aA.c (by first|exact inside _ _ _) ?_|refine aC ?_|fail
 all_goals(simp_all)
theorem idxI (l:List Int) (hl:l.length≤1048576):Fz F.jT [.sl 1 (E cI l),.fn F.eG []] (.v (.int .i64 (sD (fun x=>!inB x 0 4095) l))):=
 aFV Tryz.mixed Cd.ixf_int64_k.o Cd.ixf_int64_k.n Cd.ixf_int64_k.r rfl (fun x=>!inB x 0 4095) F.eG [] rfl (fun x hx=>aFu x) hl
theorem conI (l:List Int) (hl:l.length≤1048576):Fz F.kY [.sl 1 (E cI l),.fn F.eG []] (.v (.bool (l.any (fun x=>!inB x 0 4095)))):=
 aDs Tryz.mixed (g:=F.jT) Cd.ctf_int64_k.o Cd.ctf_int64_k.n Cd.ctf_int64_k.r rfl (fun x=>!inB x 0 4095) F.eG [] rfl (idxI l hl)
theorem aJS (l:List Int) (p:Int→Bool):(!(l.any fun x=>!p x))=l.all p:=by
 induction l with
 |nil=>rfl
 |cons x r ih=>simp only[List.any_cons,List.all_cons,Bool.not_or,Bool.not_not,ih]
theorem aHe (c:List Int) (hc:c.length≤1048576):Fz F.pI [.agg (cC c)] (.v (.bool (gM c))):=by
 refine fn0 Cd.i_ValidCard_k fun X=>?_
 repeat' first|simp -dsimp only[go_sem,cC]|apply Br.mk<;>intro h<;>try simp -dsimp only[h]|refine aA.c (by first|exact qC c|exact inside _ _ _|exact conI c hc) ?_|refine aC ?_|fail
 all_goals(first|(refine aO ?_;have e:=aJS c (fun x=>inB x 0 4095);simp_all [gM];done)|(simp_all [gM];done))
end
end Go.Proofs.YthbnjmgjhonfbaaGreat
