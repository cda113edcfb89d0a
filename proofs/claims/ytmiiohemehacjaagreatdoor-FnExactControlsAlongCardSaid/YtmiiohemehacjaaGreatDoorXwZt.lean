/- Steps that are marked, and read back. -/
import Derived.Test.YtmiiohemehacjaaGreatDoorXwRe
set_option linter.all false
set_option maxHeartbeats 8000000
namespace Go.Proofs.YtmiiohemehacjaaGreatDoor
open Go.Vs
variable [Vs.Envs]
attribute [local irreducible] Vs.Fn chOK areCh chTo chAt l03
def mS (k:Nat) (j:Nat):Stp:=⟨(k+9*j:Nat),(k+9*j+1:Nat),(k+9*j+2:Nat),(k+9*j+3:Nat),(k+9*j+4:Nat),(k+9*j+5:Nat),(k+9*j+6:Nat),(k+9*j+7:Nat),mtx (k+9*j+8)⟩
theorem aE5 (l:List Stp) (H:l.length<=1048576):Vs.Fn Tryz.prog F.kJ [] [.sl 9 (E cS l)] (.loc (.b 0) 0 l.length) [some (.arr 9 (E cS l) false)]:=
 aHD Tryz.mixed (g:=F.rW) (k:=9) (y:=80) (z:=[.v (.int .i64 (0)),.v (.int .i64 (0)),.v (.int .i64 (0)),.v (.int .i64 (0)),.v (.int .i64 (0)),.v (.int .i64 (0)),.v (.int .i64 (0)),.v (.int .i64 (0)),.v (.string ⟨#[]⟩)]) Cd.l_toStepS_k.o Cd.l_toStepS_k.n Cd.l_toStepS_k.r rfl (λ_=>rfl) (by decide) rfl rfl (λ_=>rfl) (λx I=>aJz x) H (by decide)
set_option maxRecDepth 20000 in
theorem aDQ (l:List Stp) (k:Nat) (hl:l.length<=1048576) (hk0:0<k) (hk:k<=900000000):Vs.Fn Tryz.prog F.l5 [.arr 9 (E cS l) false] [.loc (.b 0) 0 l.length,.v (.int .i64 k)] (.v (.int .i64 (k+9*l.length:Nat))) [some (.arr 9 (E cS (mkR (mS k) l l.length)) false)]:=by
 refine Cd.l_markStepS_k.o.fn Tryz.mixed (hin:=[.arr 9 (E cS l) false]) 81 _ [.b 0] [.arr 9 (E cS (mkR (mS k) l l.length)) false] Cd.l_markStepS_k.n Cd.l_markStepS_k.r rfl (by simp) rfl hB1 λX=>?_;unfold Cd.l5;simp -dsimp only[go_sem];refine aN.at dM (X:={i:Nat // i<=l.length}) (λi=>[(0,.loc (.b 0) 0 l.length),(1,.v (.int .i64 (k+9*i.1:Nat))),(5,.v (.int .i64 i.1))]) (λi=>[(.b 0,.arr 9 (E cS (mkR (mS k) l i.1)) false)]) (λi=>l.length-i.1) ⟨0,by omega⟩ ?_ ?_
 .simp[Vs.LeL,Vs.look,Vs.aB,Vs.aR,Vs.aK,Vs.hset,Vs.aL,aAA]
 .rintro⟨i,hi⟩;simp -dsimp only[go_sem];refine Br.mk (λhc=>?_) λhc=>?_
  .have hlt:i<l.length:=by simpa using hc
   have hw:=aH hlt hl;have w0:IntKind.i64.wrap (((k+9*i:Nat):Int)+1)=((k+9*i+1:Nat):Int):=by rw[aO (by omega) (by omega)];omega
   have w1:IntKind.i64.wrap (((k+9*i+1:Nat):Int)+1)=((k+9*i+2:Nat):Int):=by rw[aO (by omega) (by omega)];omega
   have w2:IntKind.i64.wrap (((k+9*i+2:Nat):Int)+1)=((k+9*i+3:Nat):Int):=by rw[aO (by omega) (by omega)];omega
   have w3:IntKind.i64.wrap (((k+9*i+3:Nat):Int)+1)=((k+9*i+4:Nat):Int):=by rw[aO (by omega) (by omega)];omega
   have w4:IntKind.i64.wrap (((k+9*i+4:Nat):Int)+1)=((k+9*i+5:Nat):Int):=by rw[aO (by omega) (by omega)];omega
   have w5:IntKind.i64.wrap (((k+9*i+5:Nat):Int)+1)=((k+9*i+6:Nat):Int):=by rw[aO (by omega) (by omega)];omega
   have w6:IntKind.i64.wrap (((k+9*i+6:Nat):Int)+1)=((k+9*i+7:Nat):Int):=by rw[aO (by omega) (by omega)];omega
   have w7:IntKind.i64.wrap (((k+9*i+7:Nat):Int)+1)=((k+9*i+8:Nat):Int):=by rw[aO (by omega) (by omega)];omega
   have w8:IntKind.i64.wrap (((k+9*i+8:Nat):Int)+1)=((k+9*(i+1):Nat):Int):=by rw[aO (by omega) (by omega)];omega
   have hlr:(mkR (mS k) l i).length=l.length:=fI _ l (by omega);have hgi:(E cS (mkR (mS k) l i)).getD i []=cS l[i]:=aB1 (c:=cS) _ l hlt;have hgs:∀r,((E cS (mkR (mS k) l i)).set i r).getD i []=r:=λr=>aEy (by rw[aI,hlr];exact hlt) r;have hst:(E cS (mkR (mS k) l i)).set i [.v (.int .i64 (k+9*i:Nat)),.v (.int .i64 (k+9*i+1:Nat)),.v (.int .i64 (k+9*i+2:Nat)),.v (.int .i64 (k+9*i+3:Nat)),.v (.int .i64 (k+9*i+4:Nat)),.v (.int .i64 (k+9*i+5:Nat)),.v (.int .i64 (k+9*i+6:Nat)),.v (.int .i64 (k+9*i+7:Nat)),.v (.string (mtx (k+9*i+8)))]=E cS (mkR (mS k) l (i+1)):=aB0 (c:=cS) (mS k) l hlt
   repeat' first|simp -dsimp only[go_sem,hw,w0,w1,w2,w3,w4,w5,w6,w7,w8,hgi,hgs,hst,hlr,cS,aI,List.set_set,List.length_set,List.set_cons_zero,List.set_cons_succ,List.length_cons,List.length_nil]|apply Br.mk<;>intro h<;>try simp -dsimp only[h]|refine aD.c (by first|exact aFF (k+9*i+8) (by omega) (by omega)) ?_|refine aC ?_|fail
   all_goals(exact⟨⟨i+1,by omega⟩,by simp[Vs.LeL,Vs.look,Vs.aB,Vs.aR,Vs.aK,Vs.hset,Vs.aL],by simp only;omega⟩)
  .have hge:i=l.length:=by
    have:¬i<l.length:=by simpa using hc
    omega
   subst hge;simp -dsimp only[go_sem];exact⟨⟨_,_,rfl,rfl⟩,λh=>h rfl⟩
end Go.Proofs.YtmiiohemehacjaaGreatDoor
