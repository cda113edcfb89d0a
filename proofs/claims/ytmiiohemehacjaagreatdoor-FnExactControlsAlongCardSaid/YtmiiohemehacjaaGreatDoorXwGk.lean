/- Control totals that are marked, and read back. -/
import Derived.Test.YtmiiohemehacjaaGreatDoorXwRe
import Derived.Test.YtmiiohemehacjaaGreatDoorXuF
import Derived.Test.YtmiiohemehacjaaGreatDoorXwVr
set_option linter.all false
set_option maxHeartbeats 8000000
namespace Go.Proofs.YtmiiohemehacjaaGreatDoor
open Go.Vs
variable [Vs.Envs]
attribute [local irreducible] Vs.Fn chOK areCh chTo chAt l03 chB rk cd3 chI stp stpTo
theorem aHf (x:Int×Int×Int):Fz F.jV [.agg (cCt x),.agg (cCt x)] (.v (.bool true)):=by
 refine fn0 Cd.l_eqControl_k λX=>?_
 repeat' first|simp -dsimp only[go_sem,cCt]|apply Br.mk<;>intro h<;>try simp -dsimp only[h]|refine aC ?_|fail
 all_goals(simp_all)
theorem aCY (l:List (Int×Int×Int)) (H:l.length<=1048576):Fz F.gI [.sl 3 (E cCt l),.sl 3 (E cCt l)] (.v (.bool true)):=
 aET Tryz.mixed (g:=F.jV) (k:=3) Cd.l_eqControlS_k.o Cd.l_eqControlS_k.n Cd.l_eqControlS_k.r rfl (λ_=>rfl) (λ_=>rfl) (λx I=>aHf x) H
def mC (k:Nat) (j:Nat):Int×Int×Int:=((k+3*j:Nat),(k+3*j+1:Nat),(k+3*j+2:Nat))
set_option maxRecDepth 20000 in
theorem aEI (l:List (Int×Int×Int)) (k:Nat) (hl:l.length<=1048576) (hk0:0<k) (hk:k<=900000000):Vs.Fn Tryz.prog F.fK [.arr 3 (E cCt l) false] [.loc (.b 0) 0 l.length,.v (.int .i64 k)] (.v (.int .i64 (k+3*l.length:Nat))) [some (.arr 3 (E cCt (mkR (mC k) l l.length)) false)]:=by
 refine Cd.l_markControlS_k.o.fn Tryz.mixed (hin:=[.arr 3 (E cCt l) false]) 34 _ [.b 0] [.arr 3 (E cCt (mkR (mC k) l l.length)) false] Cd.l_markControlS_k.n Cd.l_markControlS_k.r rfl (by simp) rfl hB1 λX=>?_;unfold Cd.fK;simp -dsimp only[go_sem];refine aN.at dM (X:={i:Nat // i<=l.length}) (λi=>[(0,.loc (.b 0) 0 l.length),(1,.v (.int .i64 (k+3*i.1:Nat))),(5,.v (.int .i64 i.1))]) (λi=>[(.b 0,.arr 3 (E cCt (mkR (mC k) l i.1)) false)]) (λi=>l.length-i.1) ⟨0,by omega⟩ ?_ ?_
 .simp[Vs.LeL,Vs.look,Vs.aB,Vs.aR,Vs.aK,Vs.hset,Vs.aL,aAA]
 .rintro⟨i,hi⟩;simp -dsimp only[go_sem];refine Br.mk (λhc=>?_) λhc=>?_
  .have hlt:i<l.length:=by simpa using hc
   have hw:=aH hlt hl;have w0:IntKind.i64.wrap (((k+3*i:Nat):Int)+1)=((k+3*i+1:Nat):Int):=by rw[aO (by omega) (by omega)];omega
   have w1:IntKind.i64.wrap (((k+3*i+1:Nat):Int)+1)=((k+3*i+2:Nat):Int):=by rw[aO (by omega) (by omega)];omega
   have w2:IntKind.i64.wrap (((k+3*i+2:Nat):Int)+1)=((k+3*(i+1):Nat):Int):=by rw[aO (by omega) (by omega)];omega
   have hlr:(mkR (mC k) l i).length=l.length:=fI _ l (by omega);have hgi:(E cCt (mkR (mC k) l i)).getD i []=cCt l[i]:=aB1 (c:=cCt) _ l hlt;have hgs:∀r,((E cCt (mkR (mC k) l i)).set i r).getD i []=r:=λr=>aEy (by rw[aI,hlr];exact hlt) r;have hst:(E cCt (mkR (mC k) l i)).set i [.v (.int .i64 (k+3*i:Nat)),.v (.int .i64 (k+3*i+1:Nat)),.v (.int .i64 (k+3*i+2:Nat))]=E cCt (mkR (mC k) l (i+1)):=aB0 (c:=cCt) (mC k) l hlt
   repeat' first|simp -dsimp only[go_sem,hw,w0,w1,w2,hgi,hgs,hst,hlr,cCt,aI,List.set_set,List.length_set,List.set_cons_zero,List.set_cons_succ,List.length_cons,List.length_nil]|apply Br.mk<;>intro h<;>try simp -dsimp only[h]|refine aC ?_|fail
   all_goals(exact⟨⟨i+1,by omega⟩,by simp[Vs.LeL,Vs.look,Vs.aB,Vs.aR,Vs.aK,Vs.hset,Vs.aL],by simp only;omega⟩)
  .have hge:i=l.length:=by
    have:¬i<l.length:=by simpa using hc
    omega
   subst hge;simp -dsimp only[go_sem];exact⟨⟨_,_,rfl,rfl⟩,λh=>h rfl⟩
set_option maxRecDepth 20000 in
theorem aEP (l:List (Int×Int×Int)) (k:Nat) (hl:l.length<=1048576) (hk0:0<k) (hk:k<=900000000):Fz F.fM [.sl 3 (E cCt (mkR (mC k) l l.length)),.v (.int .i64 k)] (.v (.int .i64 (k+3*l.length:Nat))):=by
 have hlr:(mkR (mC k) l l.length).length=l.length:=fI _ l (Nat.le_refl _);refine fn0 Cd.l_heldControlS_k λX=>?_;simp -dsimp only[go_sem];refine aN.at dM (X:={i:Nat // i<=l.length}) (λi=>[(1,.v (.int .i64 (k+3*i.1:Nat))),(5,.v (.int .i64 i.1))]) (λi=>[]) (λi=>l.length-i.1) ⟨0,by omega⟩ ?_ ?_
 .exact le0
 .rintro⟨i,hi⟩;simp -dsimp only[go_sem,aI,hlr];refine Br.mk (λhc=>?_) λhc=>?_
  .have hlt:i<l.length:=by simpa using hc
   have hw:=aH hlt hl;have w0:IntKind.i64.wrap (((k+3*i:Nat):Int)+1)=((k+3*i+1:Nat):Int):=by rw[aO (by omega) (by omega)];omega
   have w1:IntKind.i64.wrap (((k+3*i+1:Nat):Int)+1)=((k+3*i+2:Nat):Int):=by rw[aO (by omega) (by omega)];omega
   have w2:IntKind.i64.wrap (((k+3*i+2:Nat):Int)+1)=((k+3*(i+1):Nat):Int):=by rw[aO (by omega) (by omega)];omega
   have n0:(((k+3*i:Nat):Int) != ((k+3*i:Nat):Int))=false:=by simp
   have n1:(((k+3*i+1:Nat):Int) != ((k+3*i+1:Nat):Int))=false:=by simp
   have n2:(((k+3*i+2:Nat):Int) != ((k+3*i+2:Nat):Int))=false:=by simp
   have hgi:(E cCt (mkR (mC k) l l.length)).getD i []=[.v (.int .i64 (k+3*i:Nat)),.v (.int .i64 (k+3*i+1:Nat)),.v (.int .i64 (k+3*i+2:Nat))]:=by
    rw[aQ (by rw[hlr];exact hlt)];simp only[aLV,List.getElem_map,List.getElem_range];rfl
   repeat' first|simp -dsimp only[go_sem,hw,w0,w1,w2,n0,n1,n2,hgi,hlr,aI]|apply Br.mk<;>intro h<;>try simp -dsimp only[h]|refine aC ?_|fail
   all_goals(exact⟨⟨i+1,by omega⟩,by simp[Vs.LeL,Vs.look,Vs.aB,Vs.aR,Vs.aK,Vs.hset,Vs.aL],by simp only;omega⟩)
  .have hge:i=l.length:=by
    have:¬i<l.length:=by simpa using hc
    omega
   subst hge;simp -dsimp only[go_sem];simp
theorem aHe  : Fz F.gI [.v (.slice none 0 0),.v (.slice none 0 0)] (.v (.bool true)):=by
 refine fn0 Cd.l_eqControlS_k λX=>?_;simp -dsimp only[go_sem];refine aN.at dM (X:=Unit) (λ_=>[]) (λ_=>[]) (λ_=>0) () ?_ ?_
 .exact le0
 .rintro⟨⟩;simp -dsimp only[go_sem];refine Br.mk (λh=>absurd h (by decide)) λ_=>?_;simp -dsimp only[go_sem];exact⟨aU rfl,λh=>h rfl⟩
theorem aKp (k:Int):Fz F.fK [.v (.slice none 0 0),.v (.int .i64 k)] (.v (.int .i64 k)):=by
 refine fn0 Cd.l_markControlS_k λX=>?_;simp -dsimp only[go_sem];refine aN.at dM (X:=Unit) (λ_=>[]) (λ_=>[]) (λ_=>0) () ?_ ?_
 .exact le0
 .rintro⟨⟩;simp -dsimp only[go_sem];refine Br.mk (λh=>absurd h (by decide)) λ_=>?_;simp -dsimp only[go_sem];exact⟨aU rfl,λh=>h rfl⟩
theorem aKD (k:Int):Fz F.fM [.v (.slice none 0 0),.v (.int .i64 k)] (.v (.int .i64 k)):=by
 refine fn0 Cd.l_heldControlS_k λX=>?_;simp -dsimp only[go_sem];refine aN.at dM (X:=Unit) (λ_=>[]) (λ_=>[]) (λ_=>0) () ?_ ?_
 .exact le0
 .rintro⟨⟩;simp -dsimp only[go_sem];refine Br.mk (λh=>absurd h (by decide)) λ_=>?_;simp -dsimp only[go_sem];exact⟨aU rfl,λh=>h rfl⟩
end Go.Proofs.YtmiiohemehacjaaGreatDoor
