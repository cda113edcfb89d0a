/- A step in a variable that is spoilt; a deck and a field that are drawn. -/
import Derived.Test.YtklmdppgonhflaaGreatDoorVsI
import Derived.Test.YtklmdppgonhflaaGreatDoorXwBb
import Derived.Test.YtklmdppgonhflaaGreatDoorXwJd
import Derived.Test.YtklmdppgonhflaaGreatDoorXwJa
set_option linter.all false
set_option maxHeartbeats 8000000
namespace Go.Proofs.YtklmdppgonhflaaGreatDoor
open Go.Vs
variable [Vs.Tab 0 Vs.powP]
attribute [local irreducible] Vs.Fn nxV nxS pkV pkS pt crd gG dtF jD
attribute [local go_sem] Ae Aj Ad Al Ar AY
attribute [local go_sem] Int.reduceBEq Int.reduceBNe cC aH Af Ag Ao Aq Ac Ai Ap Av Am Ak AR BQ Vs.Name.t.injEq aT aU bF Be BF BG Int.reduceAdd Int.reduceSub cCt cFd Vs.Name.b.injEq Nat.one_ne_zero Nat.zero_ne_one and_true and_false Ck false_and Bf BA Cj Ce in
theorem aG9 (l:List Int) (x:Sr) (J:byt l) (hp:x.p<=2800) (s:Stp) (G:s.text.size<=2):∃s' z,z.p<=x.p+20∧s'.text.size<=2∧Vs.Fn Tryz.prog F.lD [sB l x,.var (cS s) false] [.ptr (.b 0) 0 0,.ptr (.b 1) 0 0] (.tup []) [some (sB l z),some (.var (cS s') false)]:=by
 have O:=pick l x J 8 (by omega);have q1:=aO l x 8;have h1:=aZ J x (n:=8) (by omega);generalize pkV l x 8=v1 at *
 generalize pkS l x 8=y1 at *
 have hv:v1=0∨v1=1∨v1=2∨v1=3∨v1=4∨v1=5∨v1=6∨v1=7:=by omega
 rcases hv with rfl|rfl|rfl|rfl|rfl|rfl|rfl|rfl
 .have I:=among l y1 J [0,7,8,-1] (by omega) (by simp) (by simp);have V:=aO l y1 (([0,7,8,-1]:List Int).length:Nat);generalize([0,7,8,-1]:List Int).getD _ 0=w at *
  generalize pkS l y1 (([0,7,8,-1]:List Int).length:Nat)=z at *
  refine⟨⟨w,s.a,s.b,s.to,s.f0,s.f1,s.s0,s.s1,s.text⟩,z,by omega,by first|exact G|exact H,?_⟩;refine fn1 CdV.l15Spoil_k [.b 0,.b 1] [sB l z,.var (cS ⟨w,s.a,s.b,s.to,s.f0,s.f1,s.s0,s.s1,s.text⟩) false] λX=>?_;unfold CdV.l15Spoil
  repeat' first|simp -dsimp only[go_sem,sB,cS]|apply Br.mk<;>intro h<;>try simp -dsimp only[h]|refine aA.bor (by first|exact O|exact U|exact M) rfl ?_|refine aA.borM (by first|exact I) rfl ?_|refine aC ?_|refine aC9 ?_|fail
  all_goals first|omega|exact⟨_,_,rfl,rfl⟩|(refine⟨⟨by omega,by omega⟩,?_⟩;exact⟨_,_,rfl,rfl⟩)
 .have I:=among l y1 J [-1,5,6] (by omega) (by simp) (by simp);have V:=aO l y1 (([-1,5,6]:List Int).length:Nat);generalize([-1,5,6]:List Int).getD _ 0=w at *
  generalize pkS l y1 (([-1,5,6]:List Int).length:Nat)=z at *
  refine⟨⟨s.kind,w,s.b,s.to,s.f0,s.f1,s.s0,s.s1,s.text⟩,z,by omega,by first|exact G|exact H,?_⟩;refine fn1 CdV.l15Spoil_k [.b 0,.b 1] [sB l z,.var (cS ⟨s.kind,w,s.b,s.to,s.f0,s.f1,s.s0,s.s1,s.text⟩) false] λX=>?_;unfold CdV.l15Spoil
  repeat' first|simp -dsimp only[go_sem,sB,cS]|apply Br.mk<;>intro h<;>try simp -dsimp only[h]|refine aA.bor (by first|exact O|exact U|exact M) rfl ?_|refine aA.borM (by first|exact I) rfl ?_|refine aC ?_|refine aC9 ?_|fail
  all_goals first|omega|exact⟨_,_,rfl,rfl⟩|(refine⟨⟨by omega,by omega⟩,?_⟩;exact⟨_,_,rfl,rfl⟩)
 .have I:=among l y1 J [-1,1,5,6] (by omega) (by simp) (by simp);have V:=aO l y1 (([-1,1,5,6]:List Int).length:Nat);generalize([-1,1,5,6]:List Int).getD _ 0=w at *
  generalize pkS l y1 (([-1,1,5,6]:List Int).length:Nat)=z at *
  refine⟨⟨s.kind,s.a,w,s.to,s.f0,s.f1,s.s0,s.s1,s.text⟩,z,by omega,by first|exact G|exact H,?_⟩;refine fn1 CdV.l15Spoil_k [.b 0,.b 1] [sB l z,.var (cS ⟨s.kind,s.a,w,s.to,s.f0,s.f1,s.s0,s.s1,s.text⟩) false] λX=>?_;unfold CdV.l15Spoil
  repeat' first|simp -dsimp only[go_sem,sB,cS]|apply Br.mk<;>intro h<;>try simp -dsimp only[h]|refine aA.bor (by first|exact O|exact U|exact M) rfl ?_|refine aA.borM (by first|exact I) rfl ?_|refine aC ?_|refine aC9 ?_|fail
  all_goals first|omega|exact⟨_,_,rfl,rfl⟩|(refine⟨⟨by omega,by omega⟩,?_⟩;exact⟨_,_,rfl,rfl⟩)
 .have I:=among l y1 J [-1,5,6] (by omega) (by simp) (by simp);have V:=aO l y1 (([-1,5,6]:List Int).length:Nat);generalize([-1,5,6]:List Int).getD _ 0=w at *
  generalize pkS l y1 (([-1,5,6]:List Int).length:Nat)=z at *
  refine⟨⟨s.kind,s.a,s.b,w,s.f0,s.f1,s.s0,s.s1,s.text⟩,z,by omega,by first|exact G|exact H,?_⟩;refine fn1 CdV.l15Spoil_k [.b 0,.b 1] [sB l z,.var (cS ⟨s.kind,s.a,s.b,w,s.f0,s.f1,s.s0,s.s1,s.text⟩) false] λX=>?_;unfold CdV.l15Spoil
  repeat' first|simp -dsimp only[go_sem,sB,cS]|apply Br.mk<;>intro h<;>try simp -dsimp only[h]|refine aA.bor (by first|exact O|exact U|exact M) rfl ?_|refine aA.borM (by first|exact I) rfl ?_|refine aC ?_|refine aC9 ?_|fail
  all_goals first|omega|exact⟨_,_,rfl,rfl⟩|(refine⟨⟨by omega,by omega⟩,?_⟩;exact⟨_,_,rfl,rfl⟩)
 .obtain⟨Y,Z,z,V,M⟩:=drawFieldK l y1 J (by omega) 5 (.inr rfl);refine⟨⟨s.kind,s.a,s.b,s.to,Y,Z,s.s0,s.s1,s.text⟩,z,by omega,by first|exact G|exact H,?_⟩;refine fn1 CdV.l15Spoil_k [.b 0,.b 1] [sB l z,.var (cS ⟨s.kind,s.a,s.b,s.to,Y,Z,s.s0,s.s1,s.text⟩) false] λX=>?_;unfold CdV.l15Spoil
  repeat' first|simp -dsimp only[go_sem,sB,cS]|apply Br.mk<;>intro h<;>try simp -dsimp only[h]|refine aA.bor (by first|exact O|exact U|exact M) rfl ?_|refine aA.borM (by first|exact I) rfl ?_|refine aC ?_|refine aC9 ?_|fail
  all_goals first|omega|exact⟨_,_,rfl,rfl⟩|(refine⟨⟨by omega,by omega⟩,?_⟩;exact⟨_,_,rfl,rfl⟩)
 .obtain⟨Y,Z,z,V,M⟩:=drawFieldK l y1 J (by omega) 5 (.inr rfl);refine⟨⟨s.kind,s.a,s.b,s.to,s.f0,s.f1,Y,Z,s.text⟩,z,by omega,by first|exact G|exact H,?_⟩;refine fn1 CdV.l15Spoil_k [.b 0,.b 1] [sB l z,.var (cS ⟨s.kind,s.a,s.b,s.to,s.f0,s.f1,Y,Z,s.text⟩) false] λX=>?_;unfold CdV.l15Spoil
  repeat' first|simp -dsimp only[go_sem,sB,cS]|apply Br.mk<;>intro h<;>try simp -dsimp only[h]|refine aA.bor (by first|exact O|exact U|exact M) rfl ?_|refine aA.borM (by first|exact I) rfl ?_|refine aC ?_|refine aC9 ?_|fail
  all_goals first|omega|exact⟨_,_,rfl,rfl⟩|(refine⟨⟨by omega,by omega⟩,?_⟩;exact⟨_,_,rfl,rfl⟩)
 .have I:=text l y1 J [⟨#[]⟩,⟨#[65]⟩,⟨#[97]⟩,⟨#[65,66]⟩] (by omega) (by simp) (by simp);have V:=aO l y1 (([⟨#[]⟩,⟨#[65]⟩,⟨#[97]⟩,⟨#[65,66]⟩]:List ByteArray).length:Nat);have H:(([⟨#[]⟩,⟨#[65]⟩,⟨#[97]⟩,⟨#[65,66]⟩]:List ByteArray).getD (pkV l y1 (([⟨#[]⟩,⟨#[65]⟩,⟨#[97]⟩,⟨#[65,66]⟩]:List ByteArray).length:Nat)).toNat ⟨#[]⟩).size<=2:=tx4 _;unfold cSt at I;simp only[Vs.E,Bt,BI] at I;generalize([⟨#[]⟩,⟨#[65]⟩,⟨#[97]⟩,⟨#[65,66]⟩]:List ByteArray).getD _ ⟨#[]⟩=w at *
  generalize pkS l y1 (([⟨#[]⟩,⟨#[65]⟩,⟨#[97]⟩,⟨#[65,66]⟩]:List ByteArray).length:Nat)=z at *
  refine⟨⟨s.kind,s.a,s.b,s.to,s.f0,s.f1,s.s0,s.s1,w⟩,z,by omega,by first|exact G|exact H,?_⟩;refine fn1 CdV.l15Spoil_k [.b 0,.b 1] [sB l z,.var (cS ⟨s.kind,s.a,s.b,s.to,s.f0,s.f1,s.s0,s.s1,w⟩) false] λX=>?_;unfold CdV.l15Spoil
  repeat' first|simp -dsimp only[go_sem,sB,cS]|apply Br.mk<;>intro h<;>try simp -dsimp only[h]|refine aA.bor (by first|exact O|exact U|exact M) rfl ?_|refine aA.borM (by first|exact I) rfl ?_|refine aC ?_|refine aC9 ?_|fail
  all_goals first|omega|exact⟨_,_,rfl,rfl⟩|(refine⟨⟨by omega,by omega⟩,?_⟩;exact⟨_,_,rfl,rfl⟩)
 .have U:=pick l y1 J 2 (by omega);have V:=aO l y1 2;generalize pkV l y1 2=w at *
  generalize pkS l y1 2=z at *
  refine⟨⟨s.kind,s.a,s.b,s.to,s.f0,s.f1,1,(IntKind.i64.wrap (13+w)),s.text⟩,z,by omega,by first|exact G|exact H,?_⟩;refine fn1 CdV.l15Spoil_k [.b 0,.b 1] [sB l z,.var (cS ⟨s.kind,s.a,s.b,s.to,s.f0,s.f1,1,(IntKind.i64.wrap (13+w)),s.text⟩) false] λX=>?_;unfold CdV.l15Spoil
  repeat' first|simp -dsimp only[go_sem,sB,cS]|apply Br.mk<;>intro h<;>try simp -dsimp only[h]|refine aA.bor (by first|exact O|exact U|exact M) rfl ?_|refine aA.borM (by first|exact I) rfl ?_|refine aC ?_|refine aC9 ?_|fail
  all_goals first|omega|exact⟨_,_,rfl,rfl⟩|(refine⟨⟨by omega,by omega⟩,?_⟩;exact⟨_,_,rfl,rfl⟩)
theorem aGn (l:List Int):Vs.Fn Tryz.prog F.gJ [] [.sl 1 (E cU l)] (.ptr (.b 0) 0 0) [some (.var [.sl 1 (E cU l),.v (.int .i64 0),.v (.int .u64 0)] false)]:=by
 refine fn1 Cd.s_l00From_k [.t 5 0] [sB l ⟨0,0⟩] λX=>?_;unfold Cd.gJ
 repeat' first|simp -dsimp only[go_sem,Int.reduceBEq,Int.reduceBNe,cC,aH,Af,Ag,Ao,Aq,Ac,Ai,Ap,Av,Am,Ak,AR,BQ,Vs.Name.t.injEq,aT,aU,bF,sB,Be,BF,BG]|apply Br.mk<;>intro h<;>try simp -dsimp only[h]|refine aC ?_|refine aC9 ?_|fail
 all_goals exact⟨_,_,rfl,rfl⟩
attribute [local go_sem] Int.reduceBEq Int.reduceBNe aH Af Ag Ao Aq Ac Ai Ap Av Am Ak AR BQ Vs.Name.t.injEq aT aU bF sB Be BF BG Int.reduceAdd Int.reduceSub cCt in
theorem aOK (l:List Int) (J:byt l):∃d H I,bO d∧Fz F.jR [.sl 1 (E cU l)] (.tup [.sl 1 (E cC d),.agg (cFd H I)]):=by
 have FR:=aGn l;have U:=one l ⟨0,0⟩ J 6 (by dsimp only;omega);have q1:=aO l ⟨0,0⟩ 6;obtain⟨b1,V⟩:∃b,(pkV l ⟨0,0⟩ 6==0)=b:=⟨_,rfl⟩;rw[V] at U;generalize pkS l ⟨0,0⟩ 6=y1 at *
 dsimp only at q1;cases b1
 .obtain⟨d,Z,Y,ha,q2,M⟩:=aIB l y1 J 8 (by omega) (by omega);have G:=nN (w:=5) (by omega) (aGM Y (by omega));obtain⟨H,I,z,q3,O⟩:=iD l Z J (by omega);refine⟨d,H,I,G,?_⟩;refine fn0 Cd.s_DrawControlOf_k λX=>?_
  repeat' first|simp -dsimp only[go_sem,cC,cFd,cFd]|apply Br.mk<;>intro h<;>try simp -dsimp only[h]|refine aA.bor (by first|exact U|exact M|exact O) rfl ?_|refine aA.own (by first|exact FR) rfl ?_|refine aC ?_|refine aC9 ?_|fail
  all_goals first|omega|exact⟨_,_,rfl,rfl⟩
 .obtain⟨d,Z,G,q2,M⟩:=iL l y1 J (by omega);obtain⟨H,I,z,q3,O⟩:=drawFieldK l Z J (by omega) 4 (.inl rfl);refine⟨d,H,I,G,?_⟩;refine fn0 Cd.s_DrawControlOf_k λX=>?_
  repeat' first|simp -dsimp only[go_sem,cC,cFd,cFd]|apply Br.mk<;>intro h<;>try simp -dsimp only[h]|refine aA.bor (by first|exact U|exact M|exact O) rfl ?_|refine aA.own (by first|exact FR) rfl ?_|refine aC ?_|refine aC9 ?_|fail
  all_goals first|omega|exact⟨_,_,rfl,rfl⟩
end Go.Proofs.YtklmdppgonhflaaGreatDoor
