/- ControlsAlong: the program and the reference. -/
import Derived.Test.YtmiiohemehacjaaGreatDoorVsI
import Derived.Test.YtmiiohemehacjaaGreatDoorXwGz
set_option linter.all false
set_option maxHeartbeats 8000000
namespace Go.Proofs.YtmiiohemehacjaaGreatDoor
open Go.Vs
section
variable [Vs.Tab 1 Vs.powP]
attribute [local irreducible] Vs.Fn dW wO stC run iU bR chOK areCh chTo chAt l03 chB rk cd3 chI stp stpTo
attribute [local go_sem] Int.reduceBEq Int.reduceBNe cC aH Ai Ah Al Aq Ad Af Ac Ae Aa Ab Ao Ar Ay Az Bo Bq Vs.Name.t.injEq Ak AB Vs.Name.b.injEq A7 Bi in
theorem aID (fr to:Int) (o:Off) (w:Nat) (ho:okO w o) (hn:kX fr to w=true) (G:List Stp) (hz:∀x,x∈G->x.text.size<=1048576) (hl:G.length<=1048576) (h2:(alg fr to o G).2=true):Vs.Fn Tryz.prog F.iX [] [.ro (cO o),.sl 9 (E cS G),.agg (cFd fr to)] (.tup [.loc (.b 0) 0 (alg fr to o G).1.length,.v (.int .i64 0)]) [some (.arr 3 (E cCt (alg fr to o G).1) false)]:=by
 have h3:=zV fr to o G;generalize hR:alg fr to o G=R at h2⊢;by_cases he:o.totals.length=0
 focus
  have OW:=aCu o (dC ho) (by rw[ho.2.1];omega) he;refine fn1 Cd.s_l18Along_k [.t 9 0] [.arr 3 (E cCt R.1) false] λX=>?_;unfold Cd.iX
  repeat' first|simp -dsimp only[go_sem,cO,cS,cFd,cCt]|apply Br.mk<;>intro h<;>try simp -dsimp only[h]|refine aA.own (by first|exact OW) rfl ?_|refine aC ?_|refine aC9 ?_|fail
  refine aO.atR dM (X:={p:Nat×Off×List (Int×Int×Int) // p.1<=G.length∧okO w p.2.1∧o.totals.length<=p.2.1.totals.length∧aCh fr to o G p.1 p.2.1 p.2.2}) (λp=>[(9,.loc (.t 9 0) 0 p.1.2.2.length),(10,.v (.int .i64 (p.1.1:Nat)))]) (λp=>(.t 8 0,.var [.loc (.t 16 0) 0 p.1.2.1.trays.length,gU p.1.2.1] false)::(.t 16 0,.arr 1 (E cD p.1.2.1.trays) false)::(.t 9 0,.arr 3 (E cCt p.1.2.2) false)::gHU p.1.2.1) (λp=>G.length-p.1.1) ⟨(0,o,[]),by simp,ho,AL _,h3⟩ ?_ ?_
  .simp[Vs.LeL,Vs.look,aB,aP,aJ,Vs.hset,aK,aIM he,aEe he,Vs.E]
 rotate_left
 focus
  have OW:=aHH o (dC ho) (by rw[ho.2.1];omega) (by omega);refine fn1 Cd.s_l18Along_k [.t 9 0] [.arr 3 (E cCt R.1) false] λX=>?_;unfold Cd.iX
  repeat' first|simp -dsimp only[go_sem,cO,cS,cFd,cCt]|apply Br.mk<;>intro h<;>try simp -dsimp only[h]|refine aA.own (by first|exact OW) rfl ?_|refine aC ?_|refine aC9 ?_|fail
  refine aO.atR dM (X:={p:Nat×Off×List (Int×Int×Int) // p.1<=G.length∧okO w p.2.1∧o.totals.length<=p.2.1.totals.length∧aCh fr to o G p.1 p.2.1 p.2.2}) (λp=>[(9,.loc (.t 9 0) 0 p.1.2.2.length),(10,.v (.int .i64 (p.1.1:Nat)))]) (λp=>(.t 8 0,.var [.loc (.t 16 0) 0 p.1.2.1.trays.length,gU p.1.2.1] false)::(.t 16 0,.arr 1 (E cD p.1.2.1.trays) false)::(.t 9 0,.arr 3 (E cCt p.1.2.2) false)::gHU p.1.2.1) (λp=>G.length-p.1.1) ⟨(0,o,[]),by simp,ho,AL _,h3⟩ ?_ ?_
  .simp[Vs.LeL,Vs.look,aB,aP,aJ,Vs.hset,aK,aDN he,aAf he,Vs.E]
 all_goals
  rintro⟨⟨i,I,ha⟩,hi,L,h4,M⟩;dsimp only at hi L h4 M⊢;have h9:=M.2.2;have h5:=dC L;have qa:=L.2.1;have h8:=L.2.2.2.1;have hr:(E cCt ha).take ha.length=E cCt ha:=Ag (by rw[aH];exact AL _);have hg:∀c:Int×Int×Int,E cCt ha++[[.v (.int .i64 c.1),.v (.int .i64 c.2.1),.v (.int .i64 c.2.2)]]=E cCt (ha++[c]):=λc=>by rw[aS];rfl
  by_cases Y:I.totals.length=0
 .exact absurd Y (by omega)
 rotate_left
 .rw[aIM Y,aEe Y];have WD:=zD I h5 Y
  try simp -dsimp only[go_sem,cO,cS,cFd,cCt]
  refine Br.mk (λhc=>?_) λhc=>?_
  .have U:i<G.length:=Dq;have hw:=aI U (by omega);have gx:(E cS G).getD i []=cS G[i]:=aR U;have hf:=hz _ (Am U);have LS:=tH G[i] (wO I.trays:Int) hf;cases hv:dW G[i] (wO I.trays)
   .rw[hv] at LS;have H:=jW U M (by unfold dsC;rw[hv];simp);rw[hR] at H;subst H;dsimp only
    repeat' first|simp -dsimp only[go_sem,gx,hr,cO,cS,cFd,cCt]|apply Br.mk<;>intro h<;>try simp -dsimp only[h]|refine aA.c (by first|exact WD|exact LS) ?_|refine aC ?_|refine aC9 ?_|fail
    all_goals first|omega|exact⟨_,_,rfl,rfl⟩|exact⟨⟨_,_,rfl,rfl⟩,λh=>h rfl⟩|exact λ_=>⟨⟨_,_,rfl,rfl⟩,λh=>h rfl⟩|exact⟨λ_=>⟨_,_,rfl,rfl⟩,λh=>absurd rfl h⟩
   .rw[hv] at LS;by_cases h0:stC G[i] I=0
    .have hd:dsC G[i] I=0:=by unfold dsC;rw[hv];exact h0
     have J:=qZ U M hd;have O:=vS U M hd;have Z:=yE L hd;have h6:=tQ G[i] I;have hx:=nC L hv;by_cases h7:G[i].kind=7
     .have DO:=wC G[i] hf I w L hv Y h7 h0;obtain⟨q1,q2⟩:=o9 (o:=I) h7;have hm:(stO G[i] I).totals.length=I.totals.length+1:=by rw[q1,AC];rfl
      have ht:(stO G[i] I).totals.length≠0:=by omega
      have hq:=aDN ht;have hp:=aAf ht;have e7:(G[i].kind==7)=true:=Bj.2 h7;have hk:tlT G[i] (stO G[i] I)=tr I.trays G[i].a:=by unfold tlT tlK;rw[AY h7,q2]
      have ga:=dN hx.a;have a0:=hx.a.1;have a1:=hx.a.2;have mk:=dB hx.a;have CT:=uX (tr I.trays G[i].a) fr to (by have:=(bQ L.1.2 (L.2.2.1 _ mk)).1;omega) (tV L hn mk);rw[hk] at J O;generalize stO G[i] I=o2 at *
      cases hb:iU fr to (tr I.trays G[i].a)
      .rw[hb] at CT;have hj:R.2=false:=by rw[←hR];exact O hb
       exact absurd (h2.symm.trans hj) (by decide)
      .rw[hb] at CT;have V:=J hb;generalize bR fr to (tr I.trays G[i].a)=ct at *
       repeat' first|simp -dsimp only[go_sem,gx,hw,e7,ga,hb,hg,cO,cS,cFd,cCt]|apply Br.mk<;>intro h<;>try simp -dsimp only[h]|refine aA.borG (B:=[.t 8 0,.t 16 0]) (by first|exact DO) rfl ?_|refine aA.c (by first|exact WD|exact LS|exact CT) ?_|refine aC ?_|refine aC9 ?_|fail
       all_goals first|omega|(refine⟨⟨(i+1,o2,ha++[ct]),by simp only;omega,Z,by simp only;omega,V⟩,.inr ⟨.t 33 2,.t 16 1,by decide,rfl,?_⟩,by simp only;omega⟩;simp[oU,Vs.nmF,Vs.rn,Vs.rnL,Vs.rnB,Vs.LeL,Vs.look,aB,aP,aJ,Vs.hset,aK,hq,hp,q1,q2,hg];done)
     .have DO:=zI G[i] hf I w L hv Y h7 h0;obtain⟨q1,q2⟩:=sQ (o:=I) h7;have hm:(stO G[i] I).totals.length=I.totals.length:=by rw[q1]
      have hs:(stO G[i] I).totals.length=0:=by rw[q1];exact Y
      have hq:=aIM hs;have hp:=aEe hs;have e7:(G[i].kind==7)=false:=Ap.2 h7;have hk:tlT G[i] (stO G[i] I)=tr (stO G[i] I).trays G[i].to:=by unfold tlT tlK;rw[AJ h7]
      have tt:0<=G[i].to∧G[i].to<((stO G[i] I).trays.length:Int):=by have:=hx.to;omega
      have ga:=dN tt;have a0:=hx.to.1;have a1:=hx.to.2;have mk:=dB tt;have CT:=uX (tr (stO G[i] I).trays G[i].to) fr to (by have:=(bQ Z.1.2 (Z.2.2.1 _ mk)).1;omega) (tV Z hn mk);rw[hk] at J O;rw[q2] at ga CT J O;generalize hu:I.trays.set G[i].to.toNat (dkL G[i] (tr I.trays G[i].a) (tr I.trays G[i].b))=T2 at *
      have h1:T2.length=I.trays.length:=by rw[←hu];simp
      generalize stO G[i] I=o2 at *
      cases hb:iU fr to (tr T2 G[i].to)
      .rw[hb] at CT;have hj:R.2=false:=by rw[←hR];exact O hb
       exact absurd (h2.symm.trans hj) (by decide)
      .rw[hb] at CT;have V:=J hb;generalize bR fr to (tr T2 G[i].to)=ct at *
       repeat' first|simp -dsimp only[go_sem,gx,hw,e7,ga,hb,hg,cO,cS,cFd,cCt]|apply Br.mk<;>intro h<;>try simp -dsimp only[h]|refine aA.borG (B:=[.t 8 0,.t 16 0]) (by first|exact DO) rfl ?_|refine aA.c (by first|exact WD|exact LS|exact CT) ?_|refine aC ?_|refine aC9 ?_|fail
       all_goals first|omega|(refine⟨⟨(i+1,o2,ha++[ct]),by simp only;omega,Z,by simp only;omega,V⟩,.inl ?_,by simp only;omega⟩;simp[Vs.LeL,Vs.look,aB,aP,aJ,Vs.hset,aK,hq,hp,q1,q2,h1,hg];done)
    .have DO:=zH G[i] hf I w L hv Y h0;have e0:(stC G[i] I != 0)=true:=by simp[h0]
     have H:=jW U M (by unfold dsC;rw[hv];exact h0);rw[hR] at H;subst H;dsimp only;generalize stC G[i] I=c at *
     repeat' first|simp -dsimp only[go_sem,gx,e0,hr,cO,cS,cFd,cCt]|apply Br.mk<;>intro h<;>try simp -dsimp only[h]|refine aA.borG (B:=[.t 8 0,.t 16 0]) (by first|exact DO) rfl ?_|refine aA.c (by first|exact WD|exact LS) ?_|refine aC ?_|refine aC9 ?_|fail
     all_goals first|omega|exact⟨_,_,rfl,rfl⟩|exact⟨⟨_,_,rfl,rfl⟩,λh=>h rfl⟩|exact λ_=>⟨⟨_,_,rfl,rfl⟩,λh=>h rfl⟩|exact⟨λ_=>⟨_,_,rfl,rfl⟩,λh=>absurd rfl h⟩
  .have hy:i=G.length:=by
    have:¬i<G.length:=Dq;omega
   subst hy;have H:=vR M;rw[hR] at H;subst H;dsimp only
   repeat' first|simp -dsimp only[go_sem,hr,cO,cS,cFd,cCt]|apply Br.mk<;>intro h<;>try simp -dsimp only[h]|refine And.intro ?_ (λh=>absurd rfl h)|refine aC ?_|refine aC9 ?_|fail
   all_goals first|omega|exact⟨_,_,rfl,rfl⟩|exact⟨⟨_,_,rfl,rfl⟩,λh=>h rfl⟩|exact λ_=>⟨⟨_,_,rfl,rfl⟩,λh=>h rfl⟩|exact⟨λ_=>⟨_,_,rfl,rfl⟩,λh=>absurd rfl h⟩
 all_goals
  rw[aDN Y,aAf Y];have WD:=nN I h5
  try simp -dsimp only[go_sem,cO,cS,cFd,cCt]
  refine Br.mk (λhc=>?_) λhc=>?_
  .have U:i<G.length:=Dq;have hw:=aI U (by omega);have gx:(E cS G).getD i []=cS G[i]:=aR U;have hf:=hz _ (Am U);have LS:=tH G[i] (wO I.trays:Int) hf;cases hv:dW G[i] (wO I.trays)
   .rw[hv] at LS;have H:=jW U M (by unfold dsC;rw[hv];simp);rw[hR] at H;subst H;dsimp only
    repeat' first|simp -dsimp only[go_sem,gx,hr,cO,cS,cFd,cCt]|apply Br.mk<;>intro h<;>try simp -dsimp only[h]|refine aA.c (by first|exact WD|exact LS) ?_|refine aC ?_|refine aC9 ?_|fail
    all_goals first|omega|exact⟨_,_,rfl,rfl⟩|exact⟨⟨_,_,rfl,rfl⟩,λh=>h rfl⟩|exact λ_=>⟨⟨_,_,rfl,rfl⟩,λh=>h rfl⟩|exact⟨λ_=>⟨_,_,rfl,rfl⟩,λh=>absurd rfl h⟩
   .rw[hv] at LS;by_cases h0:stC G[i] I=0
    .have hd:dsC G[i] I=0:=by unfold dsC;rw[hv];exact h0
     have J:=qZ U M hd;have O:=vS U M hd;have Z:=yE L hd;have h6:=tQ G[i] I;have hx:=nC L hv;by_cases h7:G[i].kind=7
     .have DO:=vZ G[i] hf I w L hv h7 h0;obtain⟨q1,q2⟩:=o9 (o:=I) h7;have hm:(stO G[i] I).totals.length=I.totals.length+1:=by rw[q1,AC];rfl
      have ht:(stO G[i] I).totals.length≠0:=by omega
      have hq:=aDN ht;have hp:=aAf ht;have e7:(G[i].kind==7)=true:=Bj.2 h7;have hk:tlT G[i] (stO G[i] I)=tr I.trays G[i].a:=by unfold tlT tlK;rw[AY h7,q2]
      have ga:=dN hx.a;have a0:=hx.a.1;have a1:=hx.a.2;have mk:=dB hx.a;have CT:=uX (tr I.trays G[i].a) fr to (by have:=(bQ L.1.2 (L.2.2.1 _ mk)).1;omega) (tV L hn mk);rw[hk] at J O;generalize stO G[i] I=o2 at *
      cases hb:iU fr to (tr I.trays G[i].a)
      .rw[hb] at CT;have hj:R.2=false:=by rw[←hR];exact O hb
       exact absurd (h2.symm.trans hj) (by decide)
      .rw[hb] at CT;have V:=J hb;generalize bR fr to (tr I.trays G[i].a)=ct at *
       repeat' first|simp -dsimp only[go_sem,gx,hw,e7,ga,hb,hg,cO,cS,cFd,cCt]|apply Br.mk<;>intro h<;>try simp -dsimp only[h]|refine aA.borG (B:=[.t 8 0,.t 16 0,.t 16 1]) (by first|exact DO) rfl ?_|refine aA.c (by first|exact WD|exact LS|exact CT) ?_|refine aC ?_|refine aC9 ?_|fail
       all_goals first|omega|(refine⟨⟨(i+1,o2,ha++[ct]),by simp only;omega,Z,by simp only;omega,V⟩,.inr ⟨.t 33 3,.t 16 1,by decide,rfl,?_⟩,by simp only;omega⟩;simp[oU,Vs.nmF,Vs.rn,Vs.rnL,Vs.rnB,Vs.LeL,Vs.look,aB,aP,aJ,Vs.hset,aK,hq,hp,q1,q2,hg];done)
     .have DO:=zG G[i] hf I w L hv h7 h0;obtain⟨q1,q2⟩:=sQ (o:=I) h7;have hm:(stO G[i] I).totals.length=I.totals.length:=by rw[q1]
      have hs:(stO G[i] I).totals.length≠0:=by rw[q1];exact Y
      have hq:=aDN hs;have hp:=aAf hs;have e7:(G[i].kind==7)=false:=Ap.2 h7;have hk:tlT G[i] (stO G[i] I)=tr (stO G[i] I).trays G[i].to:=by unfold tlT tlK;rw[AJ h7]
      have tt:0<=G[i].to∧G[i].to<((stO G[i] I).trays.length:Int):=by have:=hx.to;omega
      have ga:=dN tt;have a0:=hx.to.1;have a1:=hx.to.2;have mk:=dB tt;have CT:=uX (tr (stO G[i] I).trays G[i].to) fr to (by have:=(bQ Z.1.2 (Z.2.2.1 _ mk)).1;omega) (tV Z hn mk);rw[hk] at J O;rw[q2] at ga CT J O;generalize hu:I.trays.set G[i].to.toNat (dkL G[i] (tr I.trays G[i].a) (tr I.trays G[i].b))=T2 at *
      have h1:T2.length=I.trays.length:=by rw[←hu];simp
      generalize stO G[i] I=o2 at *
      cases hb:iU fr to (tr T2 G[i].to)
      .rw[hb] at CT;have hj:R.2=false:=by rw[←hR];exact O hb
       exact absurd (h2.symm.trans hj) (by decide)
      .rw[hb] at CT;have V:=J hb;generalize bR fr to (tr T2 G[i].to)=ct at *
       repeat' first|simp -dsimp only[go_sem,gx,hw,e7,ga,hb,hg,cO,cS,cFd,cCt]|apply Br.mk<;>intro h<;>try simp -dsimp only[h]|refine aA.borG (B:=[.t 8 0,.t 16 0,.t 16 1]) (by first|exact DO) rfl ?_|refine aA.c (by first|exact WD|exact LS|exact CT) ?_|refine aC ?_|refine aC9 ?_|fail
       all_goals first|omega|(refine⟨⟨(i+1,o2,ha++[ct]),by simp only;omega,Z,by simp only;omega,V⟩,.inl ?_,by simp only;omega⟩;simp[Vs.LeL,Vs.look,aB,aP,aJ,Vs.hset,aK,hq,hp,q1,q2,h1,hg];done)
    .have DO:=zF G[i] hf I w L hv h0;have e0:(stC G[i] I != 0)=true:=by simp[h0]
     have H:=jW U M (by unfold dsC;rw[hv];exact h0);rw[hR] at H;subst H;dsimp only;generalize stC G[i] I=c at *
     repeat' first|simp -dsimp only[go_sem,gx,e0,hr,cO,cS,cFd,cCt]|apply Br.mk<;>intro h<;>try simp -dsimp only[h]|refine aA.borG (B:=[.t 8 0,.t 16 0,.t 16 1]) (by first|exact DO) rfl ?_|refine aA.c (by first|exact WD|exact LS) ?_|refine aC ?_|refine aC9 ?_|fail
     all_goals first|omega|exact⟨_,_,rfl,rfl⟩|exact⟨⟨_,_,rfl,rfl⟩,λh=>h rfl⟩|exact λ_=>⟨⟨_,_,rfl,rfl⟩,λh=>h rfl⟩|exact⟨λ_=>⟨_,_,rfl,rfl⟩,λh=>absurd rfl h⟩
  .have hy:i=G.length:=by
    have:¬i<G.length:=Dq;omega
   subst hy;have H:=vR M;rw[hR] at H;subst H;dsimp only
   repeat' first|simp -dsimp only[go_sem,hr,cO,cS,cFd,cCt]|apply Br.mk<;>intro h<;>try simp -dsimp only[h]|refine And.intro ?_ (λh=>absurd rfl h)|refine aC ?_|refine aC9 ?_|fail
   all_goals first|omega|exact⟨_,_,rfl,rfl⟩|exact⟨⟨_,_,rfl,rfl⟩,λh=>h rfl⟩|exact λ_=>⟨⟨_,_,rfl,rfl⟩,λh=>h rfl⟩|exact⟨λ_=>⟨_,_,rfl,rfl⟩,λh=>absurd rfl h⟩
end
section
variable [Vs.Tab 1 Vs.powP]
attribute [local irreducible] Vs.Fn dW wO stC run iU bR chOK areCh chTo chAt l03 chB rk cd3 chI stp stpTo
attribute [local go_sem] Int.reduceBEq Int.reduceBNe cC aH Ai Ah Al Aq Ad Af Ac Ae Aa Ab Ao Ar Ay Az Bo Bq Vs.Name.t.injEq Ak AB Vs.Name.b.injEq A7 Bi cCt in
theorem aDa (fr to:Int) (o:Off) (w:Nat) (ho:okO w o) (hn:kX fr to w=true) (fl:List Stp) (hz:∀x,x∈fl->x.text.size<=1048576) (hl:fl.length<=1048576):Fz F.iX [.ro (cO o),.sl 9 (E cS fl),.agg (cFd fr to)] (.tup [caW (alg fr to o fl),.v (.int .i64 (cdW (alg fr to o fl)))]):=by
 have hI0:=zV fr to o fl;generalize hR:alg fr to o fl=R;by_cases he:o.totals.length=0
 focus
  have OW:=aCu o (dC ho) (by rw[ho.2.1];omega) he;refine fn0 Cd.s_l18Along_k λX=>?_
  repeat' first|simp -dsimp only[go_sem,cO,cS,cFd]|apply Br.mk<;>intro h<;>try simp -dsimp only[h]|refine aA.own (by first|exact OW) rfl ?_|refine aC ?_|refine aC9 ?_|fail
  refine aO.atR dM (X:={p:Nat×Off×List (Int×Int×Int) // p.1<=fl.length∧okO w p.2.1∧o.totals.length<=p.2.1.totals.length∧aCh fr to o fl p.1 p.2.1 p.2.2}) (λp=>[(9,.loc (.t 9 0) 0 p.1.2.2.length),(10,.v (.int .i64 (p.1.1:Nat)))]) (λp=>(.t 8 0,.var [.loc (.t 16 0) 0 p.1.2.1.trays.length,gU p.1.2.1] false)::(.t 16 0,.arr 1 (E cD p.1.2.1.trays) false)::(.t 9 0,.arr 3 (E cCt p.1.2.2) false)::gHU p.1.2.1) (λp=>fl.length-p.1.1) ⟨(0,o,[]),by simp,ho,AL _,hI0⟩ ?_ ?_
  .simp[Vs.LeL,Vs.look,aB,aP,aJ,Vs.hset,aK,aIM he,aEe he,Vs.E]
 rotate_left
 focus
  have OW:=aHH o (dC ho) (by rw[ho.2.1];omega) (by omega);refine fn0 Cd.s_l18Along_k λX=>?_
  repeat' first|simp -dsimp only[go_sem,cO,cS,cFd]|apply Br.mk<;>intro h<;>try simp -dsimp only[h]|refine aA.own (by first|exact OW) rfl ?_|refine aC ?_|refine aC9 ?_|fail
  refine aO.atR dM (X:={p:Nat×Off×List (Int×Int×Int) // p.1<=fl.length∧okO w p.2.1∧o.totals.length<=p.2.1.totals.length∧aCh fr to o fl p.1 p.2.1 p.2.2}) (λp=>[(9,.loc (.t 9 0) 0 p.1.2.2.length),(10,.v (.int .i64 (p.1.1:Nat)))]) (λp=>(.t 8 0,.var [.loc (.t 16 0) 0 p.1.2.1.trays.length,gU p.1.2.1] false)::(.t 16 0,.arr 1 (E cD p.1.2.1.trays) false)::(.t 9 0,.arr 3 (E cCt p.1.2.2) false)::gHU p.1.2.1) (λp=>fl.length-p.1.1) ⟨(0,o,[]),by simp,ho,AL _,hI0⟩ ?_ ?_
  .simp[Vs.LeL,Vs.look,aB,aP,aJ,Vs.hset,aK,aDN he,aAf he,Vs.E]
 all_goals
  rintro⟨⟨i,o',acc⟩,hi,ho',hge',hrun⟩;dsimp only at hi ho' hge' hrun⊢;have hal:=hrun.2.2;have hso:=dC ho';have hd6:=ho'.2.1;have ht20:=ho'.2.2.2.1;have hk1:(E cCt acc).take acc.length=E cCt acc:=Ag (by rw[aH];exact AL _);have hsn:∀c:Int×Int×Int,E cCt acc++[[.v (.int .i64 c.1),.v (.int .i64 c.2.1),.v (.int .i64 c.2.2)]]=E cCt (acc++[c]):=λc=>by rw[aS];rfl
  by_cases he':o'.totals.length=0
 .exact absurd he' (by omega)
 rotate_left
 .rw[aIM he',aEe he'];have WD:=zD o' hso he'
  try simp -dsimp only[go_sem,cO,cS,cFd]
  refine Br.mk (λhc=>?_) λhc=>?_
  .have hlt:i<fl.length:=Dq;have hw:=aI hlt (by omega);have gx:(E cS fl).getD i []=cS fl[i]:=aR hlt;have hzx:=hz _ (Am hlt);have LS:=tH fl[i] (wO o'.trays:Int) hzx;cases hv:dW fl[i] (wO o'.trays)
   .rw[hv] at LS;have hstop:=jW hlt hrun (by unfold dsC;rw[hv];simp);rw[hR] at hstop;subst hstop;rw[yI,show cdW (acc,true)=0 from rfl]
    repeat' first|simp -dsimp only[go_sem,gx,hk1,cO,cS,cFd]|apply Br.mk<;>intro h<;>try simp -dsimp only[h]|refine aA.c (by first|exact WD|exact LS) ?_|refine aC ?_|refine aC9 ?_|fail
    all_goals first|omega|exact⟨_,_,rfl,rfl⟩|exact⟨⟨_,_,rfl,rfl⟩,λh=>h rfl⟩|exact λ_=>⟨⟨_,_,rfl,rfl⟩,λh=>h rfl⟩|exact⟨λ_=>⟨_,_,rfl,rfl⟩,λh=>absurd rfl h⟩
   .rw[hv] at LS;by_cases h0:stC fl[i] o'=0
    .have hd:dsC fl[i] o'=0:=by unfold dsC;rw[hv];exact h0
     have hstep:=qZ hlt hrun hd;have hbad:=vS hlt hrun hd;have hok:=yE ho' hd;have htl:=tQ fl[i] o';have hx:=nC ho' hv;by_cases h7:fl[i].kind=7
     .have DO:=wC fl[i] hzx o' w ho' hv he' h7 h0;obtain⟨q1,q2⟩:=o9 (o:=o') h7;have hm:(stO fl[i] o').totals.length=o'.totals.length+1:=by rw[q1,AC];rfl
      have hne:(stO fl[i] o').totals.length≠0:=by omega
      have hgT:=aDN hne;have hgH:=aAf hne;have e7:(fl[i].kind==7)=true:=Bj.2 h7;have hk:tlT fl[i] (stO fl[i] o')=tr o'.trays fl[i].a:=by unfold tlT tlK;rw[AY h7,q2]
      have ga:=dN hx.a;have a0:=hx.a.1;have a1:=hx.a.2;have mk:=dB hx.a;have CT:=uX (tr o'.trays fl[i].a) fr to (by have:=(bQ ho'.1.2 (ho'.2.2.1 _ mk)).1;omega) (tV ho' hn mk);rw[hk] at hstep hbad;generalize stO fl[i] o'=o2 at *
      cases hb:iU fr to (tr o'.trays fl[i].a)
      .rw[hb] at CT;have hb2:R.2=false:=by rw[←hR];exact hbad hb
       rw[yJ hb2,show cdW R=8 by unfold cdW;rw[hb2];rfl]
       repeat' first|simp -dsimp only[go_sem,gx,hw,e7,ga,hb,hsn,cO,cS,cFd]|apply Br.mk<;>intro h<;>try simp -dsimp only[h]|refine aA.borG (B:=[.t 8 0,.t 16 0]) (by first|exact DO) rfl ?_|refine aA.c (by first|exact WD|exact LS|exact CT) ?_|refine aC ?_|refine aC9 ?_|fail
       all_goals first|omega|exact⟨_,_,rfl,rfl⟩|exact⟨⟨_,_,rfl,rfl⟩,λh=>h rfl⟩|exact λ_=>⟨⟨_,_,rfl,rfl⟩,λh=>h rfl⟩|exact⟨λ_=>⟨_,_,rfl,rfl⟩,λh=>absurd rfl h⟩
      .rw[hb] at CT;have hnext:=hstep hb;generalize bR fr to (tr o'.trays fl[i].a)=ct at *
       repeat' first|simp -dsimp only[go_sem,gx,hw,e7,ga,hb,hsn,cO,cS,cFd]|apply Br.mk<;>intro h<;>try simp -dsimp only[h]|refine aA.borG (B:=[.t 8 0,.t 16 0]) (by first|exact DO) rfl ?_|refine aA.c (by first|exact WD|exact LS|exact CT) ?_|refine aC ?_|refine aC9 ?_|fail
       all_goals first|omega|(refine⟨⟨(i+1,o2,acc++[ct]),by simp only;omega,hok,by simp only;omega,hnext⟩,.inr ⟨.t 33 2,.t 16 1,by decide,rfl,?_⟩,by simp only;omega⟩;simp[oU,Vs.nmF,Vs.rn,Vs.rnL,Vs.rnB,Vs.LeL,Vs.look,aB,aP,aJ,Vs.hset,aK,hgT,hgH,q1,q2,hsn];done)
     .have DO:=zI fl[i] hzx o' w ho' hv he' h7 h0;obtain⟨q1,q2⟩:=sQ (o:=o') h7;have hm:(stO fl[i] o').totals.length=o'.totals.length:=by rw[q1]
      have he2:(stO fl[i] o').totals.length=0:=by rw[q1];exact he'
      have hgT:=aIM he2;have hgH:=aEe he2;have e7:(fl[i].kind==7)=false:=Ap.2 h7;have hk:tlT fl[i] (stO fl[i] o')=tr (stO fl[i] o').trays fl[i].to:=by unfold tlT tlK;rw[AJ h7]
      have tt:0<=fl[i].to∧fl[i].to<((stO fl[i] o').trays.length:Int):=by have:=hx.to;omega
      have ga:=dN tt;have a0:=hx.to.1;have a1:=hx.to.2;have mk:=dB tt;have CT:=uX (tr (stO fl[i] o').trays fl[i].to) fr to (by have:=(bQ hok.1.2 (hok.2.2.1 _ mk)).1;omega) (tV hok hn mk);rw[hk] at hstep hbad;rw[q2] at ga CT hstep hbad;generalize hTT:o'.trays.set fl[i].to.toNat (dkL fl[i] (tr o'.trays fl[i].a) (tr o'.trays fl[i].b))=T2 at *
      have hlT:T2.length=o'.trays.length:=by rw[←hTT];simp
      generalize stO fl[i] o'=o2 at *
      cases hb:iU fr to (tr T2 fl[i].to)
      .rw[hb] at CT;have hb2:R.2=false:=by rw[←hR];exact hbad hb
       rw[yJ hb2,show cdW R=8 by unfold cdW;rw[hb2];rfl]
       repeat' first|simp -dsimp only[go_sem,gx,hw,e7,ga,hb,hsn,cO,cS,cFd]|apply Br.mk<;>intro h<;>try simp -dsimp only[h]|refine aA.borG (B:=[.t 8 0,.t 16 0]) (by first|exact DO) rfl ?_|refine aA.c (by first|exact WD|exact LS|exact CT) ?_|refine aC ?_|refine aC9 ?_|fail
       all_goals first|omega|exact⟨_,_,rfl,rfl⟩|exact⟨⟨_,_,rfl,rfl⟩,λh=>h rfl⟩|exact λ_=>⟨⟨_,_,rfl,rfl⟩,λh=>h rfl⟩|exact⟨λ_=>⟨_,_,rfl,rfl⟩,λh=>absurd rfl h⟩
      .rw[hb] at CT;have hnext:=hstep hb;generalize bR fr to (tr T2 fl[i].to)=ct at *
       repeat' first|simp -dsimp only[go_sem,gx,hw,e7,ga,hb,hsn,cO,cS,cFd]|apply Br.mk<;>intro h<;>try simp -dsimp only[h]|refine aA.borG (B:=[.t 8 0,.t 16 0]) (by first|exact DO) rfl ?_|refine aA.c (by first|exact WD|exact LS|exact CT) ?_|refine aC ?_|refine aC9 ?_|fail
       all_goals first|omega|(refine⟨⟨(i+1,o2,acc++[ct]),by simp only;omega,hok,by simp only;omega,hnext⟩,.inl ?_,by simp only;omega⟩;simp[Vs.LeL,Vs.look,aB,aP,aJ,Vs.hset,aK,hgT,hgH,q1,q2,hlT,hsn];done)
    .have DO:=zH fl[i] hzx o' w ho' hv he' h0;have e0:(stC fl[i] o' != 0)=true:=by simp[h0]
     have hstop:=jW hlt hrun (by unfold dsC;rw[hv];exact h0);rw[hR] at hstop;subst hstop;rw[yI,show cdW (acc,true)=0 from rfl];generalize stC fl[i] o'=c at *
     repeat' first|simp -dsimp only[go_sem,gx,e0,hk1,cO,cS,cFd]|apply Br.mk<;>intro h<;>try simp -dsimp only[h]|refine aA.borG (B:=[.t 8 0,.t 16 0]) (by first|exact DO) rfl ?_|refine aA.c (by first|exact WD|exact LS) ?_|refine aC ?_|refine aC9 ?_|fail
     all_goals first|omega|exact⟨_,_,rfl,rfl⟩|exact⟨⟨_,_,rfl,rfl⟩,λh=>h rfl⟩|exact λ_=>⟨⟨_,_,rfl,rfl⟩,λh=>h rfl⟩|exact⟨λ_=>⟨_,_,rfl,rfl⟩,λh=>absurd rfl h⟩
  .have hge:i=fl.length:=by
    have:¬i<fl.length:=Dq;omega
   subst hge;have hstop:=vR hrun;rw[hR] at hstop;subst hstop;rw[yI,show cdW (acc,true)=0 from rfl]
   repeat' first|simp -dsimp only[go_sem,hk1,cO,cS,cFd]|apply Br.mk<;>intro h<;>try simp -dsimp only[h]|refine And.intro ?_ (λh=>absurd rfl h)|refine aC ?_|refine aC9 ?_|fail
   all_goals first|omega|exact⟨_,_,rfl,rfl⟩|exact⟨⟨_,_,rfl,rfl⟩,λh=>h rfl⟩|exact λ_=>⟨⟨_,_,rfl,rfl⟩,λh=>h rfl⟩|exact⟨λ_=>⟨_,_,rfl,rfl⟩,λh=>absurd rfl h⟩
 all_goals
  rw[aDN he',aAf he'];have WD:=nN o' hso
  try simp -dsimp only[go_sem,cO,cS,cFd]
  refine Br.mk (λhc=>?_) λhc=>?_
  .have hlt:i<fl.length:=Dq;have hw:=aI hlt (by omega);have gx:(E cS fl).getD i []=cS fl[i]:=aR hlt;have hzx:=hz _ (Am hlt);have LS:=tH fl[i] (wO o'.trays:Int) hzx;cases hv:dW fl[i] (wO o'.trays)
   .rw[hv] at LS;have hstop:=jW hlt hrun (by unfold dsC;rw[hv];simp);rw[hR] at hstop;subst hstop;rw[yI,show cdW (acc,true)=0 from rfl]
    repeat' first|simp -dsimp only[go_sem,gx,hk1,cO,cS,cFd]|apply Br.mk<;>intro h<;>try simp -dsimp only[h]|refine aA.c (by first|exact WD|exact LS) ?_|refine aC ?_|refine aC9 ?_|fail
    all_goals first|omega|exact⟨_,_,rfl,rfl⟩|exact⟨⟨_,_,rfl,rfl⟩,λh=>h rfl⟩|exact λ_=>⟨⟨_,_,rfl,rfl⟩,λh=>h rfl⟩|exact⟨λ_=>⟨_,_,rfl,rfl⟩,λh=>absurd rfl h⟩
   .rw[hv] at LS;by_cases h0:stC fl[i] o'=0
    .have hd:dsC fl[i] o'=0:=by unfold dsC;rw[hv];exact h0
     have hstep:=qZ hlt hrun hd;have hbad:=vS hlt hrun hd;have hok:=yE ho' hd;have htl:=tQ fl[i] o';have hx:=nC ho' hv;by_cases h7:fl[i].kind=7
     .have DO:=vZ fl[i] hzx o' w ho' hv h7 h0;obtain⟨q1,q2⟩:=o9 (o:=o') h7;have hm:(stO fl[i] o').totals.length=o'.totals.length+1:=by rw[q1,AC];rfl
      have hne:(stO fl[i] o').totals.length≠0:=by omega
      have hgT:=aDN hne;have hgH:=aAf hne;have e7:(fl[i].kind==7)=true:=Bj.2 h7;have hk:tlT fl[i] (stO fl[i] o')=tr o'.trays fl[i].a:=by unfold tlT tlK;rw[AY h7,q2]
      have ga:=dN hx.a;have a0:=hx.a.1;have a1:=hx.a.2;have mk:=dB hx.a;have CT:=uX (tr o'.trays fl[i].a) fr to (by have:=(bQ ho'.1.2 (ho'.2.2.1 _ mk)).1;omega) (tV ho' hn mk);rw[hk] at hstep hbad;generalize stO fl[i] o'=o2 at *
      cases hb:iU fr to (tr o'.trays fl[i].a)
      .rw[hb] at CT;have hb2:R.2=false:=by rw[←hR];exact hbad hb
       rw[yJ hb2,show cdW R=8 by unfold cdW;rw[hb2];rfl]
       repeat' first|simp -dsimp only[go_sem,gx,hw,e7,ga,hb,hsn,cO,cS,cFd]|apply Br.mk<;>intro h<;>try simp -dsimp only[h]|refine aA.borG (B:=[.t 8 0,.t 16 0,.t 16 1]) (by first|exact DO) rfl ?_|refine aA.c (by first|exact WD|exact LS|exact CT) ?_|refine aC ?_|refine aC9 ?_|fail
       all_goals first|omega|exact⟨_,_,rfl,rfl⟩|exact⟨⟨_,_,rfl,rfl⟩,λh=>h rfl⟩|exact λ_=>⟨⟨_,_,rfl,rfl⟩,λh=>h rfl⟩|exact⟨λ_=>⟨_,_,rfl,rfl⟩,λh=>absurd rfl h⟩
      .rw[hb] at CT;have hnext:=hstep hb;generalize bR fr to (tr o'.trays fl[i].a)=ct at *
       repeat' first|simp -dsimp only[go_sem,gx,hw,e7,ga,hb,hsn,cO,cS,cFd]|apply Br.mk<;>intro h<;>try simp -dsimp only[h]|refine aA.borG (B:=[.t 8 0,.t 16 0,.t 16 1]) (by first|exact DO) rfl ?_|refine aA.c (by first|exact WD|exact LS|exact CT) ?_|refine aC ?_|refine aC9 ?_|fail
       all_goals first|omega|(refine⟨⟨(i+1,o2,acc++[ct]),by simp only;omega,hok,by simp only;omega,hnext⟩,.inr ⟨.t 33 3,.t 16 1,by decide,rfl,?_⟩,by simp only;omega⟩;simp[oU,Vs.nmF,Vs.rn,Vs.rnL,Vs.rnB,Vs.LeL,Vs.look,aB,aP,aJ,Vs.hset,aK,hgT,hgH,q1,q2,hsn];done)
     .have DO:=zG fl[i] hzx o' w ho' hv h7 h0;obtain⟨q1,q2⟩:=sQ (o:=o') h7;have hm:(stO fl[i] o').totals.length=o'.totals.length:=by rw[q1]
      have he2:(stO fl[i] o').totals.length≠0:=by rw[q1];exact he'
      have hgT:=aDN he2;have hgH:=aAf he2;have e7:(fl[i].kind==7)=false:=Ap.2 h7;have hk:tlT fl[i] (stO fl[i] o')=tr (stO fl[i] o').trays fl[i].to:=by unfold tlT tlK;rw[AJ h7]
      have tt:0<=fl[i].to∧fl[i].to<((stO fl[i] o').trays.length:Int):=by have:=hx.to;omega
      have ga:=dN tt;have a0:=hx.to.1;have a1:=hx.to.2;have mk:=dB tt;have CT:=uX (tr (stO fl[i] o').trays fl[i].to) fr to (by have:=(bQ hok.1.2 (hok.2.2.1 _ mk)).1;omega) (tV hok hn mk);rw[hk] at hstep hbad;rw[q2] at ga CT hstep hbad;generalize hTT:o'.trays.set fl[i].to.toNat (dkL fl[i] (tr o'.trays fl[i].a) (tr o'.trays fl[i].b))=T2 at *
      have hlT:T2.length=o'.trays.length:=by rw[←hTT];simp
      generalize stO fl[i] o'=o2 at *
      cases hb:iU fr to (tr T2 fl[i].to)
      .rw[hb] at CT;have hb2:R.2=false:=by rw[←hR];exact hbad hb
       rw[yJ hb2,show cdW R=8 by unfold cdW;rw[hb2];rfl]
       repeat' first|simp -dsimp only[go_sem,gx,hw,e7,ga,hb,hsn,cO,cS,cFd]|apply Br.mk<;>intro h<;>try simp -dsimp only[h]|refine aA.borG (B:=[.t 8 0,.t 16 0,.t 16 1]) (by first|exact DO) rfl ?_|refine aA.c (by first|exact WD|exact LS|exact CT) ?_|refine aC ?_|refine aC9 ?_|fail
       all_goals first|omega|exact⟨_,_,rfl,rfl⟩|exact⟨⟨_,_,rfl,rfl⟩,λh=>h rfl⟩|exact λ_=>⟨⟨_,_,rfl,rfl⟩,λh=>h rfl⟩|exact⟨λ_=>⟨_,_,rfl,rfl⟩,λh=>absurd rfl h⟩
      .rw[hb] at CT;have hnext:=hstep hb;generalize bR fr to (tr T2 fl[i].to)=ct at *
       repeat' first|simp -dsimp only[go_sem,gx,hw,e7,ga,hb,hsn,cO,cS,cFd]|apply Br.mk<;>intro h<;>try simp -dsimp only[h]|refine aA.borG (B:=[.t 8 0,.t 16 0,.t 16 1]) (by first|exact DO) rfl ?_|refine aA.c (by first|exact WD|exact LS|exact CT) ?_|refine aC ?_|refine aC9 ?_|fail
       all_goals first|omega|(refine⟨⟨(i+1,o2,acc++[ct]),by simp only;omega,hok,by simp only;omega,hnext⟩,.inl ?_,by simp only;omega⟩;simp[Vs.LeL,Vs.look,aB,aP,aJ,Vs.hset,aK,hgT,hgH,q1,q2,hlT,hsn];done)
    .have DO:=zF fl[i] hzx o' w ho' hv h0;have e0:(stC fl[i] o' != 0)=true:=by simp[h0]
     have hstop:=jW hlt hrun (by unfold dsC;rw[hv];exact h0);rw[hR] at hstop;subst hstop;rw[yI,show cdW (acc,true)=0 from rfl];generalize stC fl[i] o'=c at *
     repeat' first|simp -dsimp only[go_sem,gx,e0,hk1,cO,cS,cFd]|apply Br.mk<;>intro h<;>try simp -dsimp only[h]|refine aA.borG (B:=[.t 8 0,.t 16 0,.t 16 1]) (by first|exact DO) rfl ?_|refine aA.c (by first|exact WD|exact LS) ?_|refine aC ?_|refine aC9 ?_|fail
     all_goals first|omega|exact⟨_,_,rfl,rfl⟩|exact⟨⟨_,_,rfl,rfl⟩,λh=>h rfl⟩|exact λ_=>⟨⟨_,_,rfl,rfl⟩,λh=>h rfl⟩|exact⟨λ_=>⟨_,_,rfl,rfl⟩,λh=>absurd rfl h⟩
  .have hge:i=fl.length:=by
    have:¬i<fl.length:=Dq;omega
   subst hge;have hstop:=vR hrun;rw[hR] at hstop;subst hstop;rw[yI,show cdW (acc,true)=0 from rfl]
   repeat' first|simp -dsimp only[go_sem,hk1,cO,cS,cFd]|apply Br.mk<;>intro h<;>try simp -dsimp only[h]|refine And.intro ?_ (λh=>absurd rfl h)|refine aC ?_|refine aC9 ?_|fail
   all_goals first|omega|exact⟨_,_,rfl,rfl⟩|exact⟨⟨_,_,rfl,rfl⟩,λh=>h rfl⟩|exact λ_=>⟨⟨_,_,rfl,rfl⟩,λh=>h rfl⟩|exact⟨λ_=>⟨_,_,rfl,rfl⟩,λh=>absurd rfl h⟩
end
section
variable [Vs.Tab 1 Vs.powP]
attribute [local irreducible] Vs.Fn dW wO stC run iU bR chOK areCh chTo chAt l03 chB rk cd3 chI stp stpTo
theorem aDo {fr to:Int}{o:Off}{n:Nat} (h:fbC fr to o n=0):rR o=true∧kX fr to (wO o.trays)=true∧n<=20:=by
 unfold fbC at h;split at h
 .split at h
  .rename_i h1 h2;rw[Au,Bb] at h2;exact⟨h1,h2.1,by omega⟩
  .cases h
 .cases h
theorem aEX {fr to:Int}{o:Off}{n:Nat} (h:exC fr to o≠0):fbC fr to o n=exC fr to o:=by
 unfold exC fbC at *
 cases h1:rR o
 .simp
 .rw[h1] at h;cases h2:kX fr to (wO o.trays)
  .simp
  .rw[h2] at h;simp at h
theorem aKr {fr to:Int}{o:Off}{n:Nat} (h:exC fr to o=0):fbC fr to o n=if n<=20 then 0 else 2:=by
 unfold exC at h;unfold fbC;split at h
 .split at h
  .rename_i h1 h2;rw[AY h1,h2,CX];by_cases hn:n<=20
   .rw[AY hn,AY (by simp;omega)]
   .rw[AJ hn,AJ (by simp;omega)]
  .cases h
 .cases h
theorem aBh (fr to:Int):∀(fl:List Stp) (o:Off),(alg fr to o fl).1.length<=fl.length
 | [],o=>by rw[alg];exact AL _
 | x::r,o=>by
  have ih:=aBh fr to r (stO x o);rw[alg];split
  .split
   .simp only[Aa];omega
   .simp
  .simp
def caC (fr to:Int) (o:Off) (fl:List Stp):Int:=if fbC fr to o fl.length=0 then(if(alg fr to o fl).2 then 0 else 8) else fbC fr to o fl.length
theorem aH1 {fr to:Int}{o:Off}{fl:List Stp} (h:caC fr to o fl=0):fbC fr to o fl.length=0∧(alg fr to o fl).2=true:=by
 unfold caC at h;split at h
 .rename_i h1;cases h2:(alg fr to o fl).2
  .rw[h2] at h;cases h
  .exact⟨h1,rfl⟩
 .rename_i h1;exact absurd h h1
theorem aMn {fr to:Int}{o:Off}{n:Nat} (h0:fbC fr to o n=0):exC fr to o=0:=by
 rcases Decidable.em (exC fr to o=0) with h|h
 .exact h
 .rw[aEX h] at h0;exact absurd h0 h
theorem z8 (fr to:Int) (o:Off) (ho:fC o) (fl:List Stp) (hz:∀x,x∈fl->x.text.size<=1048576) (hl:fl.length<=1048576) (h0:caC fr to o fl=0):Vs.Fn Tryz.prog F.dU [] [.agg (cO o),.sl 9 (E cS fl),.agg (cFd fr to)] (.tup [.loc (.b 0) 0 (alg fr to o fl).1.length,.v (.int .i64 0)]) [some (.arr 3 (E cCt (alg fr to o fl).1) false)]:=by
 obtain⟨hf,h2⟩:=aH1 h0;have OC:=aAl fr to o ho fl;rw[hf] at OC;obtain⟨hof,hnu,h20⟩:=aDo hf;have CA:=yF fr to o _ (aAm hof ho) hnu fl hz hl h2;generalize alg fr to o fl=R at *
 refine fn1 Cd.i_ControlsAlong_k [.t 22 0] [.arr 3 (E cCt R.1) false] λX=>?_;unfold Cd.dU
 repeat' first|simp -dsimp only[go_sem,Int.reduceBEq,Int.reduceBNe,cC,cO,cS,cFd,aH,Ai,Ah,Al,Aq,Ad,Af,Ac,Ae,Aa,Ab,Ao,Ar,Ay,Az,Bo,Bq,Vs.Name.t.injEq,Ak,AB,Vs.Name.b.injEq,A7,Bi,cCt]|apply Br.mk<;>intro h<;>try simp -dsimp only[h]|refine aA.own (by first|exact CA) rfl ?_|refine aA.c (by first|exact OC) ?_|refine aC ?_|refine aC9 ?_|fail
 all_goals first|omega|exact⟨_,_,rfl,rfl⟩|exact⟨⟨_,_,rfl,rfl⟩,λh=>h rfl⟩|exact λ_=>⟨⟨_,_,rfl,rfl⟩,λh=>h rfl⟩|exact⟨λ_=>⟨_,_,rfl,rfl⟩,λh=>absurd rfl h⟩|(refine aU ?_;simp;done)|(simp at h;done)|(simp at h;omega)
attribute [local go_sem] Int.reduceBEq Int.reduceBNe cC aH Ai Ah Al Aq Ad Af Ac Ae Aa Ab Ao Ar Ay Az Bo Bq Vs.Name.t.injEq Ak AB Vs.Name.b.injEq A7 Bi cCt in
theorem aAa (fr to:Int) (o:Off) (ho:fC o) (fl:List Stp) (hz:∀x,x∈fl->x.text.size<=1048576) (hl:fl.length<=1048576) (h0:caC fr to o fl≠0):Fz F.dU [.agg (cO o),.sl 9 (E cS fl),.agg (cFd fr to)] (.tup [.v (.slice none 0 0),.v (.int .i64 (caC fr to o fl))]):=by
 have OC:=aAl fr to o ho fl;by_cases hf:fbC fr to o fl.length=0
 .have h2:(alg fr to o fl).2=false:=by
   cases h:(alg fr to o fl).2
   .rfl
   .exact absurd (by simp[caC,hf,h]) h0
  rw[show caC fr to o fl=8 by simp[caC,hf,h2]];rw[hf] at OC;obtain⟨hof,hnu,h20⟩:=aDo hf;have CA:=yG fr to o _ (aAm hof ho) hnu fl hz hl h2;refine fn0 Cd.i_ControlsAlong_k λX=>?_
  repeat' first|simp -dsimp only[go_sem,cO,cS,cFd]|apply Br.mk<;>intro h<;>try simp -dsimp only[h]|refine aA.c (by first|exact OC|exact CA) ?_|refine aC ?_|refine aC9 ?_|fail
  all_goals first|omega|exact⟨_,_,rfl,rfl⟩|exact⟨⟨_,_,rfl,rfl⟩,λh=>h rfl⟩|exact λ_=>⟨⟨_,_,rfl,rfl⟩,λh=>h rfl⟩|exact⟨λ_=>⟨_,_,rfl,rfl⟩,λh=>absurd rfl h⟩|(refine aU ?_;simp;done)|(simp at h;done)|(simp at h;omega)
 .rw[show caC fr to o fl=fbC fr to o fl.length by simp[caC,hf]];have e1:(fbC fr to o fl.length != 0)=true:=by simp[hf]
  generalize fbC fr to o fl.length=c at *
  refine fn0 Cd.i_ControlsAlong_k λX=>?_
  repeat' first|simp -dsimp only[go_sem,e1,cO,cS,cFd]|apply Br.mk<;>intro h<;>try simp -dsimp only[h]|refine aA.c (by first|exact OC) ?_|refine aC ?_|refine aC9 ?_|fail
  all_goals first|omega|exact⟨_,_,rfl,rfl⟩|exact⟨⟨_,_,rfl,rfl⟩,λh=>h rfl⟩|exact λ_=>⟨⟨_,_,rfl,rfl⟩,λh=>h rfl⟩|exact⟨λ_=>⟨_,_,rfl,rfl⟩,λh=>absurd rfl h⟩|(refine aU ?_;simp;done)|(simp at h;done)|(simp at h;omega)
theorem zY (fr to:Int) (o:Off) (ho:fC o) (fl:List Stp) (hz:∀x,x∈fl->x.text.size<=1048576) (hl:fl.length<=1048576) (h0:caC fr to o fl=0):Fz F.dA [.agg (cO o),.sl 9 (E cS fl),.agg (cFd fr to)] (.tup [.sl 3 (E cCt (alg fr to o fl).1),.v (.int .i64 0)]):=by
 obtain⟨hf,h2⟩:=aH1 h0;have OC:=aCs fr to o ho;rw[aMn hf] at OC;obtain⟨hof,hnu,h20⟩:=aDo hf;have e20:decide ((fl.length:Int)>20)=false:=AX (by omega);have CA:=aDa fr to o _ (aAm hof ho) hnu fl hz hl;rw[show caW (alg fr to o fl)=.sl 3 (E cCt (alg fr to o fl).1) by unfold caW;rw[h2];rfl,show cdW (alg fr to o fl)=0 by unfold cdW;rw[h2];rfl] at CA;generalize alg fr to o fl=R at *
 refine fn0 Cd.s_ControlsAlong_k λX=>?_
 repeat' first|simp -dsimp only[go_sem,e20,aH,Int.reduceBEq,Int.reduceBNe,cC,cO,cS,cFd,Ai,Ah,Al,Aq,Ad,Af,Ac,Ae,Aa,Ab,Ao,Ar,Ay,Az,Bo,Bq,Vs.Name.t.injEq,Ak,AB,Vs.Name.b.injEq,A7,Bi,cCt]|apply Br.mk<;>intro h<;>try simp -dsimp only[h]|refine aA.c (by first|exact OC|exact CA) ?_|refine aC ?_|refine aC9 ?_|fail
 all_goals first|omega|exact⟨_,_,rfl,rfl⟩|exact⟨⟨_,_,rfl,rfl⟩,λh=>h rfl⟩|exact λ_=>⟨⟨_,_,rfl,rfl⟩,λh=>h rfl⟩|exact⟨λ_=>⟨_,_,rfl,rfl⟩,λh=>absurd rfl h⟩|(refine aU ?_;simp;done)|(simp at h;done)|(simp at h;omega)
attribute [local go_sem] aH Int.reduceBEq Int.reduceBNe cC Ai Ah Al Aq Ad Af Ac Ae Aa Ab Ao Ar Ay Az Bo Bq Vs.Name.t.injEq Ak AB Vs.Name.b.injEq A7 Bi cCt in
theorem qI (fr to:Int) (o:Off) (ho:fC o) (fl:List Stp) (hz:∀x,x∈fl->x.text.size<=1048576) (hl:fl.length<=1048576) (h0:caC fr to o fl≠0):Fz F.dA [.agg (cO o),.sl 9 (E cS fl),.agg (cFd fr to)] (.tup [.v (.slice none 0 0),.v (.int .i64 (caC fr to o fl))]):=by
 have OC:=aCs fr to o ho;by_cases hx0:exC fr to o=0
 .rw[hx0] at OC;have hc:=aKr (n:=fl.length) hx0;by_cases h20:fl.length<=20
  .rw[AY h20] at hc
   have h2:(alg fr to o fl).2=false:=by
    cases h:(alg fr to o fl).2
    .rfl
    .exact absurd (by simp[caC,hc,h]) h0
   rw[show caC fr to o fl=8 by simp[caC,hc,h2]];have e20:decide ((fl.length:Int)>20)=false:=AX (by omega);obtain⟨hof,hnu,_⟩:=aDo hc;have CA:=aDa fr to o _ (aAm hof ho) hnu fl hz hl;rw[yJ h2,show cdW (alg fr to o fl)=8 by unfold cdW;rw[h2];rfl] at CA;refine fn0 Cd.s_ControlsAlong_k λX=>?_
   repeat' first|simp -dsimp only[go_sem,e20,cO,cS,cFd]|apply Br.mk<;>intro h<;>try simp -dsimp only[h]|refine aA.c (by first|exact OC|exact CA) ?_|refine aC ?_|refine aC9 ?_|fail
   all_goals first|omega|exact⟨_,_,rfl,rfl⟩|exact⟨⟨_,_,rfl,rfl⟩,λh=>h rfl⟩|exact λ_=>⟨⟨_,_,rfl,rfl⟩,λh=>h rfl⟩|exact⟨λ_=>⟨_,_,rfl,rfl⟩,λh=>absurd rfl h⟩|(refine aU ?_;simp;done)|(simp at h;done)|(simp at h;omega)
  .rw[AJ h20] at hc;rw[show caC fr to o fl=2 by simp[caC,hc]];have e20:decide ((fl.length:Int)>20)=true:=AR (by omega);refine fn0 Cd.s_ControlsAlong_k λX=>?_
   repeat' first|simp -dsimp only[go_sem,e20,cO,cS,cFd]|apply Br.mk<;>intro h<;>try simp -dsimp only[h]|refine aA.c (by first|exact OC) ?_|refine aC ?_|refine aC9 ?_|fail
   all_goals first|omega|exact⟨_,_,rfl,rfl⟩|exact⟨⟨_,_,rfl,rfl⟩,λh=>h rfl⟩|exact λ_=>⟨⟨_,_,rfl,rfl⟩,λh=>h rfl⟩|exact⟨λ_=>⟨_,_,rfl,rfl⟩,λh=>absurd rfl h⟩|(refine aU ?_;simp;done)|(simp at h;done)|(simp at h;omega)
 .rw[show caC fr to o fl=exC fr to o by rw[caC,aEX hx0,AJ hx0]];have e1:(exC fr to o==0)=false:=Ap.2 hx0;have e2:(exC fr to o != 0)=true:=by simp[hx0]
  generalize exC fr to o=c at *
  refine fn0 Cd.s_ControlsAlong_k λX=>?_
  repeat' first|simp -dsimp only[go_sem,e1,e2,cO,cS,cFd]|apply Br.mk<;>intro h<;>try simp -dsimp only[h]|refine aA.c (by first|exact OC) ?_|refine aC ?_|refine aC9 ?_|fail
  all_goals first|omega|exact⟨_,_,rfl,rfl⟩|exact⟨⟨_,_,rfl,rfl⟩,λh=>h rfl⟩|exact λ_=>⟨⟨_,_,rfl,rfl⟩,λh=>h rfl⟩|exact⟨λ_=>⟨_,_,rfl,rfl⟩,λh=>absurd rfl h⟩|(refine aU ?_;simp;done)|(simp at h;done)|(simp at h;omega)
end
end Go.Proofs.YtmiiohemehacjaaGreatDoor
