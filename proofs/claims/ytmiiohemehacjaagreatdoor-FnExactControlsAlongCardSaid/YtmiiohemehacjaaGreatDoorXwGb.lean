/- ControlsAlong: the program and the reference. -/
import Derived.Test.YtmiiohemehacjaaGreatDoorVsI
import Derived.Test.YtmiiohemehacjaaGreatDoorXwGz
set_option linter.all false
set_option maxHeartbeats 8000000
namespace Go.Proofs.YtmiiohemehacjaaGreatDoor
open Go.Vs
section
variable [Vs.Tab 1 Vs.powP]
attribute [local irreducible] Vs.Fn mE wO stC run wN xA chOK areCh chTo chAt l03 chB rk cd3 chI stp stpTo
attribute [local go_sem] Int.reduceBEq Int.reduceBNe cC aI List.replicate_succ List.replicate_zero List.flatten_cons List.flatten_nil List.cons_append List.nil_append List.set_cons_zero List.set_cons_succ List.length_cons List.length_nil List.length_set List.mem_singleton List.mem_cons List.not_mem_nil or_false false_or Vs.Name.t.injEq List.getD_cons_zero List.getD_cons_succ Vs.Name.b.injEq List.getElem?_cons_zero List.getElem?_cons_succ cCt in
theorem aFJ (fr to:Int) (o:Off) (w:Nat) (ho:okO w o) (hn:nO fr to w=true) (fl:List Stp) (hz:∀x,x∈fl->x.text.size<=1048576) (hl:fl.length<=1048576):Fz F.rH [.ro (cO o),.sl 9 (E cS fl),.agg (cFd fr to)] (.tup [caW (alg fr to o fl),.v (.int .i64 (cdW (alg fr to o fl)))]):=by
 have hI0:=aBu fr to o fl;generalize hR:alg fr to o fl=R;by_cases he:o.totals.length=0
 focus
  have OW:=aL4 o (iZ ho) (by rw[ho.2.1];omega) he;refine fn0 Cd.s_l18Along_k λX=>?_
  repeat' first|simp -dsimp only[go_sem,cO,cS,cFd]|apply Br.mk<;>intro h<;>try simp -dsimp only[h]|refine aD.own (by first|exact OW) rfl ?_|refine aC ?_|fail
  refine aN.atR dM (X:={p:Nat×Off×List (Int×Int×Int) // p.1<=fl.length∧okO w p.2.1∧o.totals.length<=p.2.1.totals.length∧aDA fr to o fl p.1 p.2.1 p.2.2}) (λp=>[(9,.loc (.t 9 0) 0 p.1.2.2.length),(10,.v (.int .i64 (p.1.1:Nat)))]) (λp=>(.t 8 0,.var [.loc (.t 16 0) 0 p.1.2.1.trays.length,gU p.1.2.1] false)::(.t 16 0,.arr 1 (E cD p.1.2.1.trays) false)::(.t 9 0,.arr 3 (E cCt p.1.2.2) false)::gHU p.1.2.1) (λp=>fl.length-p.1.1) ⟨(0,o,[]),by simp,ho,Nat.le_refl _,hI0⟩ ?_ ?_
  .simp[Vs.LeL,Vs.look,Vs.aB,Vs.aR,Vs.aK,Vs.hset,Vs.aL,gU_e he,aKJ he,Vs.E]
 rotate_left
 focus
  have OW:=aL3 o (iZ ho) (by rw[ho.2.1];omega) (by omega);refine fn0 Cd.s_l18Along_k λX=>?_
  repeat' first|simp -dsimp only[go_sem,cO,cS,cFd]|apply Br.mk<;>intro h<;>try simp -dsimp only[h]|refine aD.own (by first|exact OW) rfl ?_|refine aC ?_|fail
  refine aN.atR dM (X:={p:Nat×Off×List (Int×Int×Int) // p.1<=fl.length∧okO w p.2.1∧o.totals.length<=p.2.1.totals.length∧aDA fr to o fl p.1 p.2.1 p.2.2}) (λp=>[(9,.loc (.t 9 0) 0 p.1.2.2.length),(10,.v (.int .i64 (p.1.1:Nat)))]) (λp=>(.t 8 0,.var [.loc (.t 16 0) 0 p.1.2.1.trays.length,gU p.1.2.1] false)::(.t 16 0,.arr 1 (E cD p.1.2.1.trays) false)::(.t 9 0,.arr 3 (E cCt p.1.2.2) false)::gHU p.1.2.1) (λp=>fl.length-p.1.1) ⟨(0,o,[]),by simp,ho,Nat.le_refl _,hI0⟩ ?_ ?_
  .simp[Vs.LeL,Vs.look,Vs.aB,Vs.aR,Vs.aK,Vs.hset,Vs.aL,aKI he,aF0 he,Vs.E]
 all_goals
  rintro⟨⟨i,o',acc⟩,hi,ho',hge',hrun⟩;dsimp only at hi ho' hge' hrun⊢;have hal:=hrun.2.2;have hso:=iZ ho';have hd6:=ho'.2.1;have ht20:=ho'.2.2.2.1;have hk1:(E cCt acc).take acc.length=E cCt acc:=List.take_of_length_le (by rw[aI];exact Nat.le_refl _);have hsn:∀c:Int×Int×Int,E cCt acc++[[.v (.int .i64 c.1),.v (.int .i64 c.2.1),.v (.int .i64 c.2.2)]]=E cCt (acc++[c]):=λc=>by rw[aV];rfl
  by_cases he':o'.totals.length=0
 .exact absurd he' (by omega)
 rotate_left
 .rw[gU_e he',aKJ he'];have WD:=aIX o' hso he'
  try simp -dsimp only[go_sem,cO,cS,cFd]
  refine Br.mk (λhc=>?_) λhc=>?_
  .have hlt:i<fl.length:=Dq;have hw:=aH hlt (by omega);have gx:(E cS fl).getD i []=cS fl[i]:=aQ hlt;have hzx:=hz _ (List.getElem_mem hlt);have LS:=aH5 fl[i] (wO o'.trays:Int) hzx;cases hv:mE fl[i] (wO o'.trays)
   .rw[hv] at LS;have hstop:=rC hlt hrun (by unfold dsC;rw[hv];simp);rw[hR] at hstop;subst hstop;rw[aBp,show cdW (acc,true)=0 from rfl]
    repeat' first|simp -dsimp only[go_sem,gx,hk1,cO,cS,cFd]|apply Br.mk<;>intro h<;>try simp -dsimp only[h]|refine aD.c (by first|exact WD|exact LS) ?_|refine aC ?_|fail
    all_goals first|omega|exact⟨_,_,rfl,rfl⟩|exact⟨⟨_,_,rfl,rfl⟩,λh=>h rfl⟩|exact λ_=>⟨⟨_,_,rfl,rfl⟩,λh=>h rfl⟩|exact⟨λ_=>⟨_,_,rfl,rfl⟩,λh=>absurd rfl h⟩
   .rw[hv] at LS;by_cases h0:stC fl[i] o'=0
    .have hd:dsC fl[i] o'=0:=by unfold dsC;rw[hv];exact h0
     have hstep:=y8 hlt hrun hd;have hbad:=aAW hlt hrun hd;have hok:=aIh ho' hd;have htl:=aEu fl[i] o';have hx:=pX ho' hv;by_cases h7:fl[i].kind=7
     .have DO:=aGX fl[i] hzx o' w ho' hv he' h7 h0;obtain⟨q1,q2⟩:=aFg (o:=o') h7;have hm:(stO fl[i] o').totals.length=o'.totals.length+1:=by rw[q1,List.length_append];rfl
      have hne:(stO fl[i] o').totals.length≠0:=by omega
      have hgT:=aKI hne;have hgH:=aF0 hne;have e7:(fl[i].kind==7)=true:=beq_iff_eq.2 h7;have hk:tlT fl[i] (stO fl[i] o')=tr o'.trays fl[i].a:=by unfold tlT tlK;rw[if_pos h7,q2]
      have ga:=dS hx.a;have a0:=hx.a.1;have a1:=hx.a.2;have mk:=dA hx.a;have CT:=aH3 (tr o'.trays fl[i].a) fr to (by have:=(fT ho'.1.2 (ho'.2.2.1 _ mk)).1;omega) (aA7 ho' hn mk);rw[hk] at hstep hbad;generalize stO fl[i] o'=o2 at *
      cases hb:wN fr to (tr o'.trays fl[i].a)
      .rw[hb] at CT;have hb2:R.2=false:=by rw[←hR];exact hbad hb
       rw[aDe hb2,show cdW R=8 by unfold cdW;rw[hb2];rfl]
       repeat' first|simp -dsimp only[go_sem,gx,hw,e7,ga,hb,hsn,cO,cS,cFd]|apply Br.mk<;>intro h<;>try simp -dsimp only[h]|refine aD.borG (B:=[.t 8 0,.t 16 0]) (by first|exact DO) rfl ?_|refine aD.c (by first|exact WD|exact LS|exact CT) ?_|refine aC ?_|fail
       all_goals first|omega|exact⟨_,_,rfl,rfl⟩|exact⟨⟨_,_,rfl,rfl⟩,λh=>h rfl⟩|exact λ_=>⟨⟨_,_,rfl,rfl⟩,λh=>h rfl⟩|exact⟨λ_=>⟨_,_,rfl,rfl⟩,λh=>absurd rfl h⟩
      .rw[hb] at CT;have hnext:=hstep hb;generalize xA fr to (tr o'.trays fl[i].a)=ct at *
       repeat' first|simp -dsimp only[go_sem,gx,hw,e7,ga,hb,hsn,cO,cS,cFd]|apply Br.mk<;>intro h<;>try simp -dsimp only[h]|refine aD.borG (B:=[.t 8 0,.t 16 0]) (by first|exact DO) rfl ?_|refine aD.c (by first|exact WD|exact LS|exact CT) ?_|refine aC ?_|fail
       all_goals first|omega|(refine⟨⟨(i+1,o2,acc++[ct]),by simp only;omega,hok,by simp only;omega,hnext⟩,.inr ⟨.t 33 2,.t 16 1,by decide,rfl,?_⟩,by simp only;omega⟩;simp[Vs.wD,Vs.nmF,Vs.rn,Vs.rnL,Vs.rnB,Vs.LeL,Vs.look,Vs.aB,Vs.aR,Vs.aK,Vs.hset,Vs.aL,hgT,hgH,q1,q2,hsn];done)
     .have DO:=aI1 fl[i] hzx o' w ho' hv he' h7 h0;obtain⟨q1,q2⟩:=aHJ (o:=o') h7;have hm:(stO fl[i] o').totals.length=o'.totals.length:=by rw[q1]
      have he2:(stO fl[i] o').totals.length=0:=by rw[q1];exact he'
      have hgT:=gU_e he2;have hgH:=aKJ he2;have e7:(fl[i].kind==7)=false:=beq_eq_false_iff_ne.2 h7;have hk:tlT fl[i] (stO fl[i] o')=tr (stO fl[i] o').trays fl[i].to:=by unfold tlT tlK;rw[if_neg h7]
      have tt:0<=fl[i].to∧fl[i].to<((stO fl[i] o').trays.length:Int):=by have:=hx.to;omega
      have ga:=dS tt;have a0:=hx.to.1;have a1:=hx.to.2;have mk:=dA tt;have CT:=aH3 (tr (stO fl[i] o').trays fl[i].to) fr to (by have:=(fT hok.1.2 (hok.2.2.1 _ mk)).1;omega) (aA7 hok hn mk);rw[hk] at hstep hbad;rw[q2] at ga CT hstep hbad;generalize hTT:o'.trays.set fl[i].to.toNat (dkL fl[i] (tr o'.trays fl[i].a) (tr o'.trays fl[i].b))=T2 at *
      have hlT:T2.length=o'.trays.length:=by rw[←hTT];simp
      generalize stO fl[i] o'=o2 at *
      cases hb:wN fr to (tr T2 fl[i].to)
      .rw[hb] at CT;have hb2:R.2=false:=by rw[←hR];exact hbad hb
       rw[aDe hb2,show cdW R=8 by unfold cdW;rw[hb2];rfl]
       repeat' first|simp -dsimp only[go_sem,gx,hw,e7,ga,hb,hsn,cO,cS,cFd]|apply Br.mk<;>intro h<;>try simp -dsimp only[h]|refine aD.borG (B:=[.t 8 0,.t 16 0]) (by first|exact DO) rfl ?_|refine aD.c (by first|exact WD|exact LS|exact CT) ?_|refine aC ?_|fail
       all_goals first|omega|exact⟨_,_,rfl,rfl⟩|exact⟨⟨_,_,rfl,rfl⟩,λh=>h rfl⟩|exact λ_=>⟨⟨_,_,rfl,rfl⟩,λh=>h rfl⟩|exact⟨λ_=>⟨_,_,rfl,rfl⟩,λh=>absurd rfl h⟩
      .rw[hb] at CT;have hnext:=hstep hb;generalize xA fr to (tr T2 fl[i].to)=ct at *
       repeat' first|simp -dsimp only[go_sem,gx,hw,e7,ga,hb,hsn,cO,cS,cFd]|apply Br.mk<;>intro h<;>try simp -dsimp only[h]|refine aD.borG (B:=[.t 8 0,.t 16 0]) (by first|exact DO) rfl ?_|refine aD.c (by first|exact WD|exact LS|exact CT) ?_|refine aC ?_|fail
       all_goals first|omega|(refine⟨⟨(i+1,o2,acc++[ct]),by simp only;omega,hok,by simp only;omega,hnext⟩,.inl ?_,by simp only;omega⟩;simp[Vs.LeL,Vs.look,Vs.aB,Vs.aR,Vs.aK,Vs.hset,Vs.aL,hgT,hgH,q1,q2,hlT,hsn];done)
    .have DO:=aI0 fl[i] hzx o' w ho' hv he' h0;have e0:(stC fl[i] o' != 0)=true:=by simp[h0]
     have hstop:=rC hlt hrun (by unfold dsC;rw[hv];exact h0);rw[hR] at hstop;subst hstop;rw[aBp,show cdW (acc,true)=0 from rfl];generalize stC fl[i] o'=c at *
     repeat' first|simp -dsimp only[go_sem,gx,e0,hk1,cO,cS,cFd]|apply Br.mk<;>intro h<;>try simp -dsimp only[h]|refine aD.borG (B:=[.t 8 0,.t 16 0]) (by first|exact DO) rfl ?_|refine aD.c (by first|exact WD|exact LS) ?_|refine aC ?_|fail
     all_goals first|omega|exact⟨_,_,rfl,rfl⟩|exact⟨⟨_,_,rfl,rfl⟩,λh=>h rfl⟩|exact λ_=>⟨⟨_,_,rfl,rfl⟩,λh=>h rfl⟩|exact⟨λ_=>⟨_,_,rfl,rfl⟩,λh=>absurd rfl h⟩
  .have hge:i=fl.length:=by
    have:¬i<fl.length:=Dq;omega
   subst hge;have hstop:=aAV hrun;rw[hR] at hstop;subst hstop;rw[aBp,show cdW (acc,true)=0 from rfl]
   repeat' first|simp -dsimp only[go_sem,hk1,cO,cS,cFd]|apply Br.mk<;>intro h<;>try simp -dsimp only[h]|refine And.intro ?_ (λh=>absurd rfl h)|refine aC ?_|fail
   all_goals first|omega|exact⟨_,_,rfl,rfl⟩|exact⟨⟨_,_,rfl,rfl⟩,λh=>h rfl⟩|exact λ_=>⟨⟨_,_,rfl,rfl⟩,λh=>h rfl⟩|exact⟨λ_=>⟨_,_,rfl,rfl⟩,λh=>absurd rfl h⟩
 all_goals
  rw[aKI he',aF0 he'];have WD:=vH o' hso
  try simp -dsimp only[go_sem,cO,cS,cFd]
  refine Br.mk (λhc=>?_) λhc=>?_
  .have hlt:i<fl.length:=Dq;have hw:=aH hlt (by omega);have gx:(E cS fl).getD i []=cS fl[i]:=aQ hlt;have hzx:=hz _ (List.getElem_mem hlt);have LS:=aH5 fl[i] (wO o'.trays:Int) hzx;cases hv:mE fl[i] (wO o'.trays)
   .rw[hv] at LS;have hstop:=rC hlt hrun (by unfold dsC;rw[hv];simp);rw[hR] at hstop;subst hstop;rw[aBp,show cdW (acc,true)=0 from rfl]
    repeat' first|simp -dsimp only[go_sem,gx,hk1,cO,cS,cFd]|apply Br.mk<;>intro h<;>try simp -dsimp only[h]|refine aD.c (by first|exact WD|exact LS) ?_|refine aC ?_|fail
    all_goals first|omega|exact⟨_,_,rfl,rfl⟩|exact⟨⟨_,_,rfl,rfl⟩,λh=>h rfl⟩|exact λ_=>⟨⟨_,_,rfl,rfl⟩,λh=>h rfl⟩|exact⟨λ_=>⟨_,_,rfl,rfl⟩,λh=>absurd rfl h⟩
   .rw[hv] at LS;by_cases h0:stC fl[i] o'=0
    .have hd:dsC fl[i] o'=0:=by unfold dsC;rw[hv];exact h0
     have hstep:=y8 hlt hrun hd;have hbad:=aAW hlt hrun hd;have hok:=aIh ho' hd;have htl:=aEu fl[i] o';have hx:=pX ho' hv;by_cases h7:fl[i].kind=7
     .have DO:=aGW fl[i] hzx o' w ho' hv h7 h0;obtain⟨q1,q2⟩:=aFg (o:=o') h7;have hm:(stO fl[i] o').totals.length=o'.totals.length+1:=by rw[q1,List.length_append];rfl
      have hne:(stO fl[i] o').totals.length≠0:=by omega
      have hgT:=aKI hne;have hgH:=aF0 hne;have e7:(fl[i].kind==7)=true:=beq_iff_eq.2 h7;have hk:tlT fl[i] (stO fl[i] o')=tr o'.trays fl[i].a:=by unfold tlT tlK;rw[if_pos h7,q2]
      have ga:=dS hx.a;have a0:=hx.a.1;have a1:=hx.a.2;have mk:=dA hx.a;have CT:=aH3 (tr o'.trays fl[i].a) fr to (by have:=(fT ho'.1.2 (ho'.2.2.1 _ mk)).1;omega) (aA7 ho' hn mk);rw[hk] at hstep hbad;generalize stO fl[i] o'=o2 at *
      cases hb:wN fr to (tr o'.trays fl[i].a)
      .rw[hb] at CT;have hb2:R.2=false:=by rw[←hR];exact hbad hb
       rw[aDe hb2,show cdW R=8 by unfold cdW;rw[hb2];rfl]
       repeat' first|simp -dsimp only[go_sem,gx,hw,e7,ga,hb,hsn,cO,cS,cFd]|apply Br.mk<;>intro h<;>try simp -dsimp only[h]|refine aD.borG (B:=[.t 8 0,.t 16 0,.t 16 1]) (by first|exact DO) rfl ?_|refine aD.c (by first|exact WD|exact LS|exact CT) ?_|refine aC ?_|fail
       all_goals first|omega|exact⟨_,_,rfl,rfl⟩|exact⟨⟨_,_,rfl,rfl⟩,λh=>h rfl⟩|exact λ_=>⟨⟨_,_,rfl,rfl⟩,λh=>h rfl⟩|exact⟨λ_=>⟨_,_,rfl,rfl⟩,λh=>absurd rfl h⟩
      .rw[hb] at CT;have hnext:=hstep hb;generalize xA fr to (tr o'.trays fl[i].a)=ct at *
       repeat' first|simp -dsimp only[go_sem,gx,hw,e7,ga,hb,hsn,cO,cS,cFd]|apply Br.mk<;>intro h<;>try simp -dsimp only[h]|refine aD.borG (B:=[.t 8 0,.t 16 0,.t 16 1]) (by first|exact DO) rfl ?_|refine aD.c (by first|exact WD|exact LS|exact CT) ?_|refine aC ?_|fail
       all_goals first|omega|(refine⟨⟨(i+1,o2,acc++[ct]),by simp only;omega,hok,by simp only;omega,hnext⟩,.inr ⟨.t 33 3,.t 16 1,by decide,rfl,?_⟩,by simp only;omega⟩;simp[Vs.wD,Vs.nmF,Vs.rn,Vs.rnL,Vs.rnB,Vs.LeL,Vs.look,Vs.aB,Vs.aR,Vs.aK,Vs.hset,Vs.aL,hgT,hgH,q1,q2,hsn];done)
     .have DO:=aIZ fl[i] hzx o' w ho' hv h7 h0;obtain⟨q1,q2⟩:=aHJ (o:=o') h7;have hm:(stO fl[i] o').totals.length=o'.totals.length:=by rw[q1]
      have he2:(stO fl[i] o').totals.length≠0:=by rw[q1];exact he'
      have hgT:=aKI he2;have hgH:=aF0 he2;have e7:(fl[i].kind==7)=false:=beq_eq_false_iff_ne.2 h7;have hk:tlT fl[i] (stO fl[i] o')=tr (stO fl[i] o').trays fl[i].to:=by unfold tlT tlK;rw[if_neg h7]
      have tt:0<=fl[i].to∧fl[i].to<((stO fl[i] o').trays.length:Int):=by have:=hx.to;omega
      have ga:=dS tt;have a0:=hx.to.1;have a1:=hx.to.2;have mk:=dA tt;have CT:=aH3 (tr (stO fl[i] o').trays fl[i].to) fr to (by have:=(fT hok.1.2 (hok.2.2.1 _ mk)).1;omega) (aA7 hok hn mk);rw[hk] at hstep hbad;rw[q2] at ga CT hstep hbad;generalize hTT:o'.trays.set fl[i].to.toNat (dkL fl[i] (tr o'.trays fl[i].a) (tr o'.trays fl[i].b))=T2 at *
      have hlT:T2.length=o'.trays.length:=by rw[←hTT];simp
      generalize stO fl[i] o'=o2 at *
      cases hb:wN fr to (tr T2 fl[i].to)
      .rw[hb] at CT;have hb2:R.2=false:=by rw[←hR];exact hbad hb
       rw[aDe hb2,show cdW R=8 by unfold cdW;rw[hb2];rfl]
       repeat' first|simp -dsimp only[go_sem,gx,hw,e7,ga,hb,hsn,cO,cS,cFd]|apply Br.mk<;>intro h<;>try simp -dsimp only[h]|refine aD.borG (B:=[.t 8 0,.t 16 0,.t 16 1]) (by first|exact DO) rfl ?_|refine aD.c (by first|exact WD|exact LS|exact CT) ?_|refine aC ?_|fail
       all_goals first|omega|exact⟨_,_,rfl,rfl⟩|exact⟨⟨_,_,rfl,rfl⟩,λh=>h rfl⟩|exact λ_=>⟨⟨_,_,rfl,rfl⟩,λh=>h rfl⟩|exact⟨λ_=>⟨_,_,rfl,rfl⟩,λh=>absurd rfl h⟩
      .rw[hb] at CT;have hnext:=hstep hb;generalize xA fr to (tr T2 fl[i].to)=ct at *
       repeat' first|simp -dsimp only[go_sem,gx,hw,e7,ga,hb,hsn,cO,cS,cFd]|apply Br.mk<;>intro h<;>try simp -dsimp only[h]|refine aD.borG (B:=[.t 8 0,.t 16 0,.t 16 1]) (by first|exact DO) rfl ?_|refine aD.c (by first|exact WD|exact LS|exact CT) ?_|refine aC ?_|fail
       all_goals first|omega|(refine⟨⟨(i+1,o2,acc++[ct]),by simp only;omega,hok,by simp only;omega,hnext⟩,.inl ?_,by simp only;omega⟩;simp[Vs.LeL,Vs.look,Vs.aB,Vs.aR,Vs.aK,Vs.hset,Vs.aL,hgT,hgH,q1,q2,hlT,hsn];done)
    .have DO:=aIY fl[i] hzx o' w ho' hv h0;have e0:(stC fl[i] o' != 0)=true:=by simp[h0]
     have hstop:=rC hlt hrun (by unfold dsC;rw[hv];exact h0);rw[hR] at hstop;subst hstop;rw[aBp,show cdW (acc,true)=0 from rfl];generalize stC fl[i] o'=c at *
     repeat' first|simp -dsimp only[go_sem,gx,e0,hk1,cO,cS,cFd]|apply Br.mk<;>intro h<;>try simp -dsimp only[h]|refine aD.borG (B:=[.t 8 0,.t 16 0,.t 16 1]) (by first|exact DO) rfl ?_|refine aD.c (by first|exact WD|exact LS) ?_|refine aC ?_|fail
     all_goals first|omega|exact⟨_,_,rfl,rfl⟩|exact⟨⟨_,_,rfl,rfl⟩,λh=>h rfl⟩|exact λ_=>⟨⟨_,_,rfl,rfl⟩,λh=>h rfl⟩|exact⟨λ_=>⟨_,_,rfl,rfl⟩,λh=>absurd rfl h⟩
  .have hge:i=fl.length:=by
    have:¬i<fl.length:=Dq;omega
   subst hge;have hstop:=aAV hrun;rw[hR] at hstop;subst hstop;rw[aBp,show cdW (acc,true)=0 from rfl]
   repeat' first|simp -dsimp only[go_sem,hk1,cO,cS,cFd]|apply Br.mk<;>intro h<;>try simp -dsimp only[h]|refine And.intro ?_ (λh=>absurd rfl h)|refine aC ?_|fail
   all_goals first|omega|exact⟨_,_,rfl,rfl⟩|exact⟨⟨_,_,rfl,rfl⟩,λh=>h rfl⟩|exact λ_=>⟨⟨_,_,rfl,rfl⟩,λh=>h rfl⟩|exact⟨λ_=>⟨_,_,rfl,rfl⟩,λh=>absurd rfl h⟩
end
section
variable [Vs.Tab 1 Vs.powP]
attribute [local irreducible] Vs.Fn mE wO stC run wN xA chOK areCh chTo chAt l03 chB rk cd3 chI stp stpTo
theorem aIc {fr to:Int}{o:Off}{n:Nat} (h:fbC fr to o n=0):tH o=true∧nO fr to (wO o.trays)=true∧n<=20:=by
 unfold fbC at h;split at h
 .split at h
  .rename_i h1 h2;rw[Bool.and_eq_true,decide_eq_true_eq] at h2;exact⟨h1,h2.1,by omega⟩
  .cases h
 .cases h
theorem aKO {fr to:Int}{o:Off}{n:Nat} (h:exC fr to o≠0):fbC fr to o n=exC fr to o:=by
 unfold exC fbC at *
 cases h1:tH o
 .simp
 .rw[h1] at h;cases h2:nO fr to (wO o.trays)
  .simp
  .rw[h2] at h;simp at h
theorem aNv {fr to:Int}{o:Off}{n:Nat} (h:exC fr to o=0):fbC fr to o n=if n<=20 then 0 else 2:=by
 unfold exC at h;unfold fbC;split at h
 .split at h
  .rename_i h1 h2;rw[if_pos h1,h2,Bool.true_and];by_cases hn:n<=20
   .rw[if_pos hn,if_pos (by simp;omega)]
   .rw[if_neg hn,if_neg (by simp;omega)]
  .cases h
 .cases h
theorem aIu (fr to:Int):∀(fl:List Stp) (o:Off),(alg fr to o fl).1.length<=fl.length
 | [],o=>by rw[alg];exact Nat.le_refl _
 | x::r,o=>by
  have ih:=aIu fr to r (stO x o);rw[alg];split
  .split
   .simp only[List.length_cons];omega
   .simp
  .simp
def caC (fr to:Int) (o:Off) (fl:List Stp):Int:=if fbC fr to o fl.length=0 then(if(alg fr to o fl).2 then 0 else 8) else fbC fr to o fl.length
theorem aMN {fr to:Int}{o:Off}{fl:List Stp} (h:caC fr to o fl=0):fbC fr to o fl.length=0∧(alg fr to o fl).2=true:=by
 unfold caC at h;split at h
 .rename_i h1;cases h2:(alg fr to o fl).2
  .rw[h2] at h;cases h
  .exact⟨h1,rfl⟩
 .rename_i h1;exact absurd h h1
theorem aIn {fr to:Int}{o:Off}{fl:List Stp} (hl:fl.length<=1048576):(alg fr to o fl).1.length<=1048576:=Nat.le_trans (aIu fr to fl o) hl
theorem exC_0 {fr to:Int}{o:Off}{n:Nat} (h0:fbC fr to o n=0):exC fr to o=0:=by
 rcases Decidable.em (exC fr to o=0) with h|h
 .exact h
 .rw[aKO h] at h0;exact absurd h0 h
theorem qE (fr to:Int) (o:Off) (ho:dD o) (fl:List Stp) (hz:∀x,x∈fl->x.text.size<=1048576) (hl:fl.length<=1048576) (h0:caC fr to o fl=0):Vs.Fn Tryz.prog F.dF [] [.agg (cO o),.sl 9 (E cS fl),.agg (cFd fr to)] (.tup [.loc (.b 0) 0 (alg fr to o fl).1.length,.v (.int .i64 0)]) [some (.arr 3 (E cCt (alg fr to o fl).1) false)]:=by
 obtain⟨hf,h2⟩:=aMN h0;have OC:=aCE fr to o ho fl;rw[hf] at OC;obtain⟨hof,hnu,h20⟩:=aIc hf;have CA:=aC5 fr to o _ (aEE hof ho) hnu fl hz hl h2;generalize alg fr to o fl=R at *
 refine fn1 Cd.i_ControlsAlong_k [.t 22 0] [.arr 3 (E cCt R.1) false] λX=>?_;unfold Cd.dF
 repeat' first|simp -dsimp only[go_sem,Int.reduceBEq,Int.reduceBNe,cC,cO,cS,cFd,aI,List.replicate_succ,List.replicate_zero,List.flatten_cons,List.flatten_nil,List.cons_append,List.nil_append,List.set_cons_zero,List.set_cons_succ,List.length_cons,List.length_nil,List.length_set,List.mem_singleton,List.mem_cons,List.not_mem_nil,or_false,false_or,Vs.Name.t.injEq,List.getD_cons_zero,List.getD_cons_succ,Vs.Name.b.injEq,List.getElem?_cons_zero,List.getElem?_cons_succ,cCt]|apply Br.mk<;>intro h<;>try simp -dsimp only[h]|refine aD.own (by first|exact CA) rfl ?_|refine aD.c (by first|exact OC) ?_|refine aC ?_|fail
 all_goals first|omega|exact⟨_,_,rfl,rfl⟩|exact⟨⟨_,_,rfl,rfl⟩,λh=>h rfl⟩|exact λ_=>⟨⟨_,_,rfl,rfl⟩,λh=>h rfl⟩|exact⟨λ_=>⟨_,_,rfl,rfl⟩,λh=>absurd rfl h⟩|(refine aU ?_;simp;done)|(simp at h;done)|(simp at h;omega)
attribute [local go_sem] Int.reduceBEq Int.reduceBNe cC aI List.replicate_succ List.replicate_zero List.flatten_cons List.flatten_nil List.cons_append List.nil_append List.set_cons_zero List.set_cons_succ List.length_cons List.length_nil List.length_set List.mem_singleton List.mem_cons List.not_mem_nil or_false false_or Vs.Name.t.injEq List.getD_cons_zero List.getD_cons_succ Vs.Name.b.injEq List.getElem?_cons_zero List.getElem?_cons_succ cCt in
theorem qF (fr to:Int) (o:Off) (ho:dD o) (fl:List Stp) (hz:∀x,x∈fl->x.text.size<=1048576) (hl:fl.length<=1048576) (h0:caC fr to o fl≠0):Fz F.dF [.agg (cO o),.sl 9 (E cS fl),.agg (cFd fr to)] (.tup [.v (.slice none 0 0),.v (.int .i64 (caC fr to o fl))]):=by
 have OC:=aCE fr to o ho fl;by_cases hf:fbC fr to o fl.length=0
 .have h2:(alg fr to o fl).2=false:=by
   cases h:(alg fr to o fl).2
   .rfl
   .exact absurd (by simp[caC,hf,h]) h0
  rw[show caC fr to o fl=8 by simp[caC,hf,h2]];rw[hf] at OC;obtain⟨hof,hnu,h20⟩:=aIc hf;have CA:=aC6 fr to o _ (aEE hof ho) hnu fl hz hl h2;refine fn0 Cd.i_ControlsAlong_k λX=>?_
  repeat' first|simp -dsimp only[go_sem,cO,cS,cFd]|apply Br.mk<;>intro h<;>try simp -dsimp only[h]|refine aD.c (by first|exact OC|exact CA) ?_|refine aC ?_|fail
  all_goals first|omega|exact⟨_,_,rfl,rfl⟩|exact⟨⟨_,_,rfl,rfl⟩,λh=>h rfl⟩|exact λ_=>⟨⟨_,_,rfl,rfl⟩,λh=>h rfl⟩|exact⟨λ_=>⟨_,_,rfl,rfl⟩,λh=>absurd rfl h⟩|(refine aU ?_;simp;done)|(simp at h;done)|(simp at h;omega)
 .rw[show caC fr to o fl=fbC fr to o fl.length by simp[caC,hf]];have e1:(fbC fr to o fl.length != 0)=true:=by simp[hf]
  generalize fbC fr to o fl.length=c at *
  refine fn0 Cd.i_ControlsAlong_k λX=>?_
  repeat' first|simp -dsimp only[go_sem,e1,cO,cS,cFd]|apply Br.mk<;>intro h<;>try simp -dsimp only[h]|refine aD.c (by first|exact OC) ?_|refine aC ?_|fail
  all_goals first|omega|exact⟨_,_,rfl,rfl⟩|exact⟨⟨_,_,rfl,rfl⟩,λh=>h rfl⟩|exact λ_=>⟨⟨_,_,rfl,rfl⟩,λh=>h rfl⟩|exact⟨λ_=>⟨_,_,rfl,rfl⟩,λh=>absurd rfl h⟩|(refine aU ?_;simp;done)|(simp at h;done)|(simp at h;omega)
theorem y9 (fr to:Int) (o:Off) (ho:dD o) (fl:List Stp) (hz:∀x,x∈fl->x.text.size<=1048576) (hl:fl.length<=1048576) (h0:caC fr to o fl=0):Fz F.fQ [.agg (cO o),.sl 9 (E cS fl),.agg (cFd fr to)] (.tup [.sl 3 (E cCt (alg fr to o fl).1),.v (.int .i64 0)]):=by
 obtain⟨hf,h2⟩:=aMN h0;have OC:=aH4 fr to o ho;rw[exC_0 hf] at OC;obtain⟨hof,hnu,h20⟩:=aIc hf;have e20:decide ((fl.length:Int)>20)=false:=decide_eq_false (by omega);have CA:=aFJ fr to o _ (aEE hof ho) hnu fl hz hl;rw[show caW (alg fr to o fl)=.sl 3 (E cCt (alg fr to o fl).1) by unfold caW;rw[h2];rfl,show cdW (alg fr to o fl)=0 by unfold cdW;rw[h2];rfl] at CA;generalize alg fr to o fl=R at *
 refine fn0 Cd.s_ControlsAlong_k λX=>?_
 repeat' first|simp -dsimp only[go_sem,e20,aI,Int.reduceBEq,Int.reduceBNe,cC,cO,cS,cFd,List.replicate_succ,List.replicate_zero,List.flatten_cons,List.flatten_nil,List.cons_append,List.nil_append,List.set_cons_zero,List.set_cons_succ,List.length_cons,List.length_nil,List.length_set,List.mem_singleton,List.mem_cons,List.not_mem_nil,or_false,false_or,Vs.Name.t.injEq,List.getD_cons_zero,List.getD_cons_succ,Vs.Name.b.injEq,List.getElem?_cons_zero,List.getElem?_cons_succ,cCt]|apply Br.mk<;>intro h<;>try simp -dsimp only[h]|refine aD.c (by first|exact OC|exact CA) ?_|refine aC ?_|fail
 all_goals first|omega|exact⟨_,_,rfl,rfl⟩|exact⟨⟨_,_,rfl,rfl⟩,λh=>h rfl⟩|exact λ_=>⟨⟨_,_,rfl,rfl⟩,λh=>h rfl⟩|exact⟨λ_=>⟨_,_,rfl,rfl⟩,λh=>absurd rfl h⟩|(refine aU ?_;simp;done)|(simp at h;done)|(simp at h;omega)
attribute [local go_sem] aI Int.reduceBEq Int.reduceBNe cC List.replicate_succ List.replicate_zero List.flatten_cons List.flatten_nil List.cons_append List.nil_append List.set_cons_zero List.set_cons_succ List.length_cons List.length_nil List.length_set List.mem_singleton List.mem_cons List.not_mem_nil or_false false_or Vs.Name.t.injEq List.getD_cons_zero List.getD_cons_succ Vs.Name.b.injEq List.getElem?_cons_zero List.getElem?_cons_succ cCt in
theorem zA (fr to:Int) (o:Off) (ho:dD o) (fl:List Stp) (hz:∀x,x∈fl->x.text.size<=1048576) (hl:fl.length<=1048576) (h0:caC fr to o fl≠0):Fz F.fQ [.agg (cO o),.sl 9 (E cS fl),.agg (cFd fr to)] (.tup [.v (.slice none 0 0),.v (.int .i64 (caC fr to o fl))]):=by
 have OC:=aH4 fr to o ho;by_cases hx0:exC fr to o=0
 .rw[hx0] at OC;have hc:=aNv (n:=fl.length) hx0;by_cases h20:fl.length<=20
  .rw[if_pos h20] at hc
   have h2:(alg fr to o fl).2=false:=by
    cases h:(alg fr to o fl).2
    .rfl
    .exact absurd (by simp[caC,hc,h]) h0
   rw[show caC fr to o fl=8 by simp[caC,hc,h2]];have e20:decide ((fl.length:Int)>20)=false:=decide_eq_false (by omega);obtain⟨hof,hnu,_⟩:=aIc hc;have CA:=aFJ fr to o _ (aEE hof ho) hnu fl hz hl;rw[aDe h2,show cdW (alg fr to o fl)=8 by unfold cdW;rw[h2];rfl] at CA;refine fn0 Cd.s_ControlsAlong_k λX=>?_
   repeat' first|simp -dsimp only[go_sem,e20,cO,cS,cFd]|apply Br.mk<;>intro h<;>try simp -dsimp only[h]|refine aD.c (by first|exact OC|exact CA) ?_|refine aC ?_|fail
   all_goals first|omega|exact⟨_,_,rfl,rfl⟩|exact⟨⟨_,_,rfl,rfl⟩,λh=>h rfl⟩|exact λ_=>⟨⟨_,_,rfl,rfl⟩,λh=>h rfl⟩|exact⟨λ_=>⟨_,_,rfl,rfl⟩,λh=>absurd rfl h⟩|(refine aU ?_;simp;done)|(simp at h;done)|(simp at h;omega)
  .rw[if_neg h20] at hc;rw[show caC fr to o fl=2 by simp[caC,hc]];have e20:decide ((fl.length:Int)>20)=true:=decide_eq_true (by omega);refine fn0 Cd.s_ControlsAlong_k λX=>?_
   repeat' first|simp -dsimp only[go_sem,e20,cO,cS,cFd]|apply Br.mk<;>intro h<;>try simp -dsimp only[h]|refine aD.c (by first|exact OC) ?_|refine aC ?_|fail
   all_goals first|omega|exact⟨_,_,rfl,rfl⟩|exact⟨⟨_,_,rfl,rfl⟩,λh=>h rfl⟩|exact λ_=>⟨⟨_,_,rfl,rfl⟩,λh=>h rfl⟩|exact⟨λ_=>⟨_,_,rfl,rfl⟩,λh=>absurd rfl h⟩|(refine aU ?_;simp;done)|(simp at h;done)|(simp at h;omega)
 .rw[show caC fr to o fl=exC fr to o by rw[caC,aKO hx0,if_neg hx0]];have e1:(exC fr to o==0)=false:=beq_eq_false_iff_ne.2 hx0;have e2:(exC fr to o != 0)=true:=by simp[hx0]
  generalize exC fr to o=c at *
  refine fn0 Cd.s_ControlsAlong_k λX=>?_
  repeat' first|simp -dsimp only[go_sem,e1,e2,cO,cS,cFd]|apply Br.mk<;>intro h<;>try simp -dsimp only[h]|refine aD.c (by first|exact OC) ?_|refine aC ?_|fail
  all_goals first|omega|exact⟨_,_,rfl,rfl⟩|exact⟨⟨_,_,rfl,rfl⟩,λh=>h rfl⟩|exact λ_=>⟨⟨_,_,rfl,rfl⟩,λh=>h rfl⟩|exact⟨λ_=>⟨_,_,rfl,rfl⟩,λh=>absurd rfl h⟩|(refine aU ?_;simp;done)|(simp at h;done)|(simp at h;omega)
end
end Go.Proofs.YtmiiohemehacjaaGreatDoor
