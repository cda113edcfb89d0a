/- The control totals along a flow: the program. -/
import Derived.Test.YtmiiohemehacjaaGreatDoorXwVu
import Derived.Test.YtmiiohemehacjaaGreatDoorVsI
import Derived.Test.YtmiiohemehacjaaGreatDoorXwVn
set_option linter.all false
set_option maxHeartbeats 8000000
namespace Go.Proofs.YtmiiohemehacjaaGreatDoor
open Go.Vs
section
variable [Vs.Envs]
attribute [local irreducible] Vs.Fn dW wO stC chOK areCh chTo chAt l03 chB rk cd3 chI stp stpTo
def roT (o:Off):AV:=if o.totals.length=0 then .v (.slice none 0 0) else .sl 1 (E cTs o.totals)
def roV (o:Off):List AV:=[.sl 1 (E cD o.trays),roT o]
def gT (o:Off):AV:=if o.totals.length=0 then .v (.slice none 0 0) else .loc (.t 9 1) 0 o.totals.length
def gHT (o:Off):List (Vs.Name×Blk):=if o.totals.length=0 then[] else[(.t 9 1,.arr 1 (E cTs o.totals) false)]
theorem aIN {o:Off} (h:o.totals.length=0):gT o=.v (.slice none 0 0):=AY h
theorem aFT {o:Off} (h:o.totals.length≠0):gT o=.loc (.t 9 1) 0 o.totals.length:=AJ h
theorem aIO {o:Off} (h:o.totals.length=0):gHT o=[]:=AY h
theorem aFU {o:Off} (h:o.totals.length≠0):gHT o=[(.t 9 1,.arr 1 (E cTs o.totals) false)]:=AJ h
theorem xM {o:Off} (h:o.totals.length=0):roT o=.v (.slice none 0 0):=AY h
theorem xL {o:Off} (h:o.totals.length≠0):roT o=.sl 1 (E cTs o.totals):=AJ h
theorem roE {o:Off} (h:o.totals.length=0) {S:Nat->Prop}{w:World}{v:Value}{ρ:Vs.Name->Option Nat}{κ:Vs.Name->Nat}{hh:Vs.Name->Option Blk} (u:RV S w ρ κ hh (.ro [.sl 1 (E cD o.trays),.v (.slice none 0 0)]) v):RV S w ρ κ hh (.ro (cO o)) v:=by
 unfold cO;rw[Bl h];exact aMB u
theorem zD (o:Off) (G:fC o) (h:o.totals.length=0):Fz F.iY [.ro [.sl 1 (E cD o.trays),.v (.slice none 0 0)]] (.v (.int .i64 (wO o.trays))):=by
 refine aEV (args':=[.ro (cO o)]) rfl (λS w j v u ρ κ hh H=>?_) (nN o G)
 match j,u with
 |0,_=>exact roE h H
theorem tQ (x:Stp) (o:Off):(stO x o).trays.length=o.trays.length:=by unfold stO;split<;>simp
theorem sQ {x:Stp}{o:Off} (u:x.kind≠7):(stO x o).totals=o.totals∧(stO x o).trays=o.trays.set x.to.toNat (dkL x (tr o.trays x.a) (tr o.trays x.b)):=by rw[aMc u];exact⟨rfl,rfl⟩
theorem o9 {x:Stp}{o:Off} (u:x.kind=7):(stO x o).totals=o.totals++[o7 x.f0 x.f1 x.s0 x.s1 (tr o.trays x.a)]∧(stO x o).trays=o.trays:=by rw[aJg u];exact⟨rfl,rfl⟩
attribute [local go_sem] Int.reduceBEq Int.reduceBNe cC cO cFd aH Ai Ah Al Aq Ad Af Ac Ae Aa Ab Ao Ar Ay Az Bo Bq Vs.Name.t.injEq Ak AB Vs.Name.b.injEq A7 Bi in
theorem l15Run (o:Off) (w:Nat) (ho:okO w o) (he:o.totals.length=0) (fl:List Stp) (hz:∀x,x∈fl->x.text.size<=1048576) (hl:fl.length<=1048576):Fz F.rE [.ro [.sl 1 (E cD o.trays),.v (.slice none 0 0)],.sl 9 (E cS fl)] (.tup [.agg (roV (run o fl).1),.v (.int .i64 ((run o fl).2:Nat))]):=by
 have OW:Vs.Fn Tryz.prog F.kD [] [.ro [.sl 1 (E cD o.trays),.v (.slice none 0 0)]] (.agg [.loc (.b 0) 0 o.trays.length,.v (.slice none 0 0)]) [some (.arr 1 (E cD o.trays) false)]:=by
  refine aEV (args':=[.ro (cO o)]) rfl (λS w j v hj ρ κ hh hv=>?_) (aCu o (dC ho) (by rw[ho.2.1];omega) he)
  match j,hj with
  |0,_=>exact roE he hv
 have hI0:=aDW o fl;generalize hR:run o fl=R;refine fn0 Cd.s_l15Run_k λX=>?_
 repeat' first|simp -dsimp only[go_sem,cS]|apply Br.mk<;>intro h<;>try simp -dsimp only[h]|refine aA.own (by first|exact OW) rfl ?_|refine aC ?_|refine aC9 ?_|fail
 refine aO.atR dM (X:={p:Nat×Off // p.1<=fl.length∧okO w p.2∧aDK o fl p.1 p.2}) (λp=>[(7,.v (.int .i64 (p.1.1:Nat)))]) (λp=>(.t 6 0,.var [.loc (.t 9 0) 0 p.1.2.trays.length,gT p.1.2] false)::(.t 9 0,.arr 1 (E cD p.1.2.trays) false)::gHT p.1.2) (λp=>fl.length-p.1.1) ⟨(0,o),by simp,ho,hI0⟩ ?_ ?_
 .simp[Vs.LeL,Vs.look,aB,aP,aJ,Vs.hset,aK,aIN he,aIO he]
 .rintro⟨⟨i,o'⟩,hi,ho',hrun⟩;dsimp only at hi ho' hrun⊢;have hso:=dC ho';have hd6:=ho'.2.1;have ht20:=ho'.2.2.2.1;have hk1:(E cD o'.trays).take o'.trays.length=E cD o'.trays:=Ag (by rw[aH];exact AL _);have hk2:(E cTs o'.totals).take o'.totals.length=E cTs o'.totals:=Ag (by rw[aH];exact AL _);by_cases he':o'.totals.length=0
  .rw[aIN he',aIO he'];have WD:=zD o' hso he'
   try simp -dsimp only[go_sem,cS]
   refine Br.mk (λhc=>?_) λhc=>?_
   .have hlt:i<fl.length:=Dq;have hw:=aI hlt (by omega);have gx:(E cS fl).getD i []=cS fl[i]:=aR hlt;have hzx:=hz _ (Am hlt);have LS:=tH fl[i] (wO o'.trays:Int) hzx;cases hv:dW fl[i] (wO o'.trays)
    .rw[hv] at LS;have hstop:=mQ hlt hrun (by unfold dsC;rw[hv];simp);rw[hR] at hstop;subst hstop
     repeat' first|simp -dsimp only[go_sem,gx,hk1,hk2,roV,xM he',cS]|apply Br.mk<;>intro h<;>try simp -dsimp only[h]|refine aA.c (by first|exact WD|exact LS) ?_|refine aC ?_|refine aC9 ?_|fail
     all_goals first|omega|exact⟨_,_,rfl,rfl⟩|exact⟨⟨_,_,rfl,rfl⟩,λh=>h rfl⟩
    .rw[hv] at LS;by_cases h0:stC fl[i] o'=0
     .have hd:dsC fl[i] o'=0:=by unfold dsC;rw[hv];exact h0
      have hnext:=yS hlt hrun hd;have hok:=yE ho' hd;have htl:=tQ fl[i] o';by_cases h7:fl[i].kind=7
      .have DO:=wC fl[i] hzx o' w ho' hv he' h7 h0;obtain⟨q1,q2⟩:=o9 (o:=o') h7;have hm:(stO fl[i] o').totals.length=o'.totals.length+1:=by rw[q1,AC];rfl
       have hne:(stO fl[i] o').totals.length≠0:=by omega
       have hgT:=aFT hne;have hgH:=aFU hne;generalize stO fl[i] o'=o2 at *
       repeat' first|simp -dsimp only[go_sem,gx,hw,cS]|apply Br.mk<;>intro h<;>try simp -dsimp only[h]|refine aA.borG (B:=[.t 6 0,.t 9 0]) (by first|exact DO) rfl ?_|refine aA.c (by first|exact WD|exact LS) ?_|refine aC ?_|refine aC9 ?_|fail
       all_goals first|omega|(refine⟨⟨(i+1,o2),by simp only;omega,hok,hnext⟩,.inr ⟨.t 26 2,.t 9 1,by decide,rfl,?_⟩,by simp only;omega⟩;simp[oU,Vs.nmF,Vs.rn,Vs.rnL,Vs.rnB,Vs.LeL,Vs.look,aB,aP,aJ,Vs.hset,aK,hgT,hgH,q1,q2];done)
      .have DO:=zI fl[i] hzx o' w ho' hv he' h7 h0;obtain⟨q1,q2⟩:=sQ (o:=o') h7;have he2:(stO fl[i] o').totals.length=0:=by rw[q1];exact he'
       have hgT:=aIN he2;have hgH:=aIO he2;generalize stO fl[i] o'=o2 at *
       repeat' first|simp -dsimp only[go_sem,gx,hw,cS]|apply Br.mk<;>intro h<;>try simp -dsimp only[h]|refine aA.borG (B:=[.t 6 0,.t 9 0]) (by first|exact DO) rfl ?_|refine aA.c (by first|exact WD|exact LS) ?_|refine aC ?_|refine aC9 ?_|fail
       all_goals first|omega|(refine⟨⟨(i+1,o2),by simp only;omega,hok,hnext⟩,.inl ?_,by simp only;omega⟩;simp[Vs.LeL,Vs.look,aB,aP,aJ,Vs.hset,aK,hgT,hgH,q1,q2];done)
     .have DO:=zH fl[i] hzx o' w ho' hv he' h0;have e0:(stC fl[i] o' != 0)=true:=by simp[h0]
      have hstop:=mQ hlt hrun (by unfold dsC;rw[hv];exact h0);rw[hR] at hstop;subst hstop;generalize stC fl[i] o'=c at *
      repeat' first|simp -dsimp only[go_sem,gx,e0,hk1,hk2,roV,xM he',cS]|apply Br.mk<;>intro h<;>try simp -dsimp only[h]|refine aA.borG (B:=[.t 6 0,.t 9 0]) (by first|exact DO) rfl ?_|refine aA.c (by first|exact WD|exact LS) ?_|refine aC ?_|refine aC9 ?_|fail
      all_goals first|omega|exact⟨_,_,rfl,rfl⟩|exact⟨⟨_,_,rfl,rfl⟩,λh=>h rfl⟩
   .have hge:i=fl.length:=by
     have:¬i<fl.length:=Dq;omega
    subst hge;have hstop:=aAN hrun;rw[hR] at hstop;subst hstop
    repeat' first|simp -dsimp only[go_sem,hk1,hk2,roV,xM he',cS]|apply Br.mk<;>intro h<;>try simp -dsimp only[h]|refine And.intro ?_ (λh=>absurd rfl h)|refine aC ?_|refine aC9 ?_|fail
    all_goals first|omega|exact⟨_,_,rfl,rfl⟩|exact⟨⟨_,_,rfl,rfl⟩,λh=>h rfl⟩
  .rw[aFT he',aFU he'];have WD:=nN o' hso
   try simp -dsimp only[go_sem,cS]
   refine Br.mk (λhc=>?_) λhc=>?_
   .have hlt:i<fl.length:=Dq;have hw:=aI hlt (by omega);have gx:(E cS fl).getD i []=cS fl[i]:=aR hlt;have hzx:=hz _ (Am hlt);have LS:=tH fl[i] (wO o'.trays:Int) hzx;cases hv:dW fl[i] (wO o'.trays)
    .rw[hv] at LS;have hstop:=mQ hlt hrun (by unfold dsC;rw[hv];simp);rw[hR] at hstop;subst hstop
     repeat' first|simp -dsimp only[go_sem,gx,hk1,hk2,roV,xL he',cS]|apply Br.mk<;>intro h<;>try simp -dsimp only[h]|refine aA.c (by first|exact WD|exact LS) ?_|refine aC ?_|refine aC9 ?_|fail
     all_goals first|omega|exact⟨_,_,rfl,rfl⟩|exact⟨⟨_,_,rfl,rfl⟩,λh=>h rfl⟩
    .rw[hv] at LS;by_cases h0:stC fl[i] o'=0
     .have hd:dsC fl[i] o'=0:=by unfold dsC;rw[hv];exact h0
      have hnext:=yS hlt hrun hd;have hok:=yE ho' hd;have htl:=tQ fl[i] o';by_cases h7:fl[i].kind=7
      .have DO:=vZ fl[i] hzx o' w ho' hv h7 h0;obtain⟨q1,q2⟩:=o9 (o:=o') h7;have hm:(stO fl[i] o').totals.length=o'.totals.length+1:=by rw[q1,AC];rfl
       have hne:(stO fl[i] o').totals.length≠0:=by omega
       have hgT:=aFT hne;have hgH:=aFU hne;generalize stO fl[i] o'=o2 at *
       repeat' first|simp -dsimp only[go_sem,gx,hw,cS]|apply Br.mk<;>intro h<;>try simp -dsimp only[h]|refine aA.borG (B:=[.t 6 0,.t 9 0,.t 9 1]) (by first|exact DO) rfl ?_|refine aA.c (by first|exact WD|exact LS) ?_|refine aC ?_|refine aC9 ?_|fail
       all_goals first|omega|(refine⟨⟨(i+1,o2),by simp only;omega,hok,hnext⟩,.inr ⟨.t 26 3,.t 9 1,by decide,rfl,?_⟩,by simp only;omega⟩;simp[oU,Vs.nmF,Vs.rn,Vs.rnL,Vs.rnB,Vs.LeL,Vs.look,aB,aP,aJ,Vs.hset,aK,hgT,hgH,q1,q2];done)
      .have DO:=zG fl[i] hzx o' w ho' hv h7 h0;obtain⟨q1,q2⟩:=sQ (o:=o') h7;have he2:(stO fl[i] o').totals.length≠0:=by rw[q1];exact he'
       have hgT:=aFT he2;have hgH:=aFU he2;generalize stO fl[i] o'=o2 at *
       repeat' first|simp -dsimp only[go_sem,gx,hw,cS]|apply Br.mk<;>intro h<;>try simp -dsimp only[h]|refine aA.borG (B:=[.t 6 0,.t 9 0,.t 9 1]) (by first|exact DO) rfl ?_|refine aA.c (by first|exact WD|exact LS) ?_|refine aC ?_|refine aC9 ?_|fail
       all_goals first|omega|(refine⟨⟨(i+1,o2),by simp only;omega,hok,hnext⟩,.inl ?_,by simp only;omega⟩;simp[Vs.LeL,Vs.look,aB,aP,aJ,Vs.hset,aK,hgT,hgH,q1,q2];done)
     .have DO:=zF fl[i] hzx o' w ho' hv h0;have e0:(stC fl[i] o' != 0)=true:=by simp[h0]
      have hstop:=mQ hlt hrun (by unfold dsC;rw[hv];exact h0);rw[hR] at hstop;subst hstop;generalize stC fl[i] o'=c at *
      repeat' first|simp -dsimp only[go_sem,gx,e0,hk1,hk2,roV,xL he',cS]|apply Br.mk<;>intro h<;>try simp -dsimp only[h]|refine aA.borG (B:=[.t 6 0,.t 9 0,.t 9 1]) (by first|exact DO) rfl ?_|refine aA.c (by first|exact WD|exact LS) ?_|refine aC ?_|refine aC9 ?_|fail
      all_goals first|omega|exact⟨_,_,rfl,rfl⟩|exact⟨⟨_,_,rfl,rfl⟩,λh=>h rfl⟩
   .have hge:i=fl.length:=by
     have:¬i<fl.length:=Dq;omega
    subst hge;have hstop:=aAN hrun;rw[hR] at hstop;subst hstop
    repeat' first|simp -dsimp only[go_sem,hk1,hk2,roV,xL he',cS]|apply Br.mk<;>intro h<;>try simp -dsimp only[h]|refine And.intro ?_ (λh=>absurd rfl h)|refine aC ?_|refine aC9 ?_|fail
    all_goals first|omega|exact⟨_,_,rfl,rfl⟩|exact⟨⟨_,_,rfl,rfl⟩,λh=>h rfl⟩
end
section
variable [Vs.Tab 1 Vs.powP]
attribute [local irreducible] Vs.Fn dW wO stC run iU bR chOK areCh chTo chAt l03 chB rk cd3 chI stp stpTo
def caW (R:List (Int×Int×Int)×Bool):AV:=if R.2 then .sl 3 (E cCt R.1) else .v (.slice none 0 0)
theorem yJ {R:List (Int×Int×Int)×Bool} (h:R.2=false):caW R=.v (.slice none 0 0):=by unfold caW;rw[h];rfl
theorem yI (l:List (Int×Int×Int)):caW (l,true)=.sl 3 (E cCt l):=rfl
theorem aKx {x:Stp}{o:Off} (h:dsC x o=0):dW x (wO o.trays)=true:=by
 unfold dsC at h;split at h
 .assumption
 .cases h
theorem aAl (fr to:Int) (o:Off) (G:fC o) (u:List Stp):Fz F.kY [.agg (cO o),.sl 9 (E cS u),.agg (cFd fr to)] (.v (.int .i64 (fbC fr to o u.length))):=by
 refine fn0 Cd.i_officeCode_k λX=>?_
 repeat' first|simp -dsimp only[go_sem,cFd,cO,aH]|apply Br.mk<;>intro h<;>try simp -dsimp only[h]|refine aA.c (by first|exact aBv o G|exact lQ o G|exact jS fr to _) ?_|refine aC ?_|refine aC9 ?_|fail
 all_goals(simp_all [fbC])
def gU (o:Off):AV:=if o.totals.length=0 then .v (.slice none 0 0) else .loc (.t 16 1) 0 o.totals.length
def gHU (o:Off):List (Vs.Name×Blk):=if o.totals.length=0 then[] else[(.t 16 1,.arr 1 (E cTs o.totals) false)]
theorem aIM {o:Off} (h:o.totals.length=0):gU o=.v (.slice none 0 0):=AY h
theorem aDN {o:Off} (h:o.totals.length≠0):gU o=.loc (.t 16 1) 0 o.totals.length:=AJ h
theorem aEe {o:Off} (h:o.totals.length=0):gHU o=[]:=AY h
theorem aAf {o:Off} (h:o.totals.length≠0):gHU o=[(.t 16 1,.arr 1 (E cTs o.totals) false)]:=AJ h
def cdW (R:List (Int×Int×Int)×Bool):Int:=if R.2 then 0 else 8
attribute [local go_sem] Int.reduceBEq Int.reduceBNe cC aH Ai Ah Al Aq Ad Af Ac Ae Aa Ab Ao Ar Ay Az Bo Bq Vs.Name.t.injEq Ak AB Vs.Name.b.injEq A7 Bi in
theorem yF (fr to:Int) (o:Off) (w:Nat) (ho:okO w o) (hn:kX fr to w=true) (fl:List Stp) (hz:∀x,x∈fl->x.text.size<=1048576) (hl:fl.length<=1048576) (h2:(alg fr to o fl).2=true):Vs.Fn Tryz.prog F.dH [] [.agg (cO o),.sl 9 (E cS fl),.agg (cFd fr to)] (.tup [.loc (.b 0) 0 (alg fr to o fl).1.length,.v (.bool true)]) [some (.arr 3 (E cCt (alg fr to o fl).1) false)]:=by
 have hI0:=zV fr to o fl;generalize hR:alg fr to o fl=R at *
 refine fn1 Cd.i_controlsAlong_k [.t 8 0] [.arr 3 (E cCt R.1) false] λX=>?_;unfold Cd.dH
 repeat' first|simp -dsimp only[go_sem,cO,cS,cFd,cCt]|apply Br.mk<;>intro h<;>try simp -dsimp only[h]|refine aC ?_|refine aC9 ?_|fail
 refine aO.at dM (X:={p:Nat×Off×List (Int×Int×Int) // p.1<=fl.length∧okO w p.2.1∧aCh fr to o fl p.1 p.2.1 p.2.2}) (λp=>[(8,.loc (.t 8 0) 0 p.1.2.2.length),(19,.v (.int .i64 (p.1.1:Nat)))]) (λp=>[(.t 3 0,.var (cO p.1.2.1) false),(.t 8 0,.arr 3 (E cCt p.1.2.2) false)]) (λp=>fl.length-p.1.1) ⟨(0,o,[]),by simp,ho,hI0⟩ ?_ ?_
 .simp[Vs.LeL,Vs.look,aB,aP,aJ,Vs.hset,aK,cO,Vs.E]
 .rintro⟨⟨i,o',acc⟩,hi,ho',hrun⟩;dsimp only at hi ho' hrun;have hal:=hrun.2.2;simp -dsimp only[go_sem,cO,cS,cFd,cCt];refine Br.mk (λhc=>?_) λhc=>?_
  .have hlt:i<fl.length:=Dq;have hw:=aI hlt (by omega);have gx:(E cS fl).getD i []=cS fl[i]:=aR hlt;have DS:=aKB fl[i] (hz _ (Am hlt)) o' w ho';by_cases hd:dsC fl[i] o'=0
   .rw[show dsV fl[i] o'=.agg (cO (stO fl[i] o')) by unfold dsV;rw[AY hd],hd] at DS;have hx:=nC ho' (aKx hd);have htl:=tQ fl[i] o';have hok:=yE ho' hd;have hstep:=qZ hlt hrun hd;have hbad:=vS hlt hrun hd;rw[hR] at hbad;have hla:(E cD (stO fl[i] o').trays).length=(stO fl[i] o').trays.length:=aH _;generalize hxx:fl[i]=x at *
    generalize stO x o'=o2 at *
    have ta:0<=x.a∧x.a<(o2.trays.length:Int):=by have:=hx.a;omega
    have tt:0<=x.to∧x.to<(o2.trays.length:Int):=by have:=hx.to;omega
    have a0:=ta.1;have a1:=ta.2;have t0:=tt.1;have t1:=tt.2;have ga:=dN ta;have gt:=dN tt;have mk:tlT x o2∈o2.trays:=by unfold tlT tlK;split;exact dB ta;exact dB tt
    have CT:=o6 (tlT x o2) fr to (by have:=(bQ hok.1.2 (hok.2.2.1 _ mk)).1;omega) (tV hok hn mk);have hsn:∀c:Int×Int×Int,E cCt acc++[[.v (.int .i64 c.1),.v (.int .i64 c.2.1),.v (.int .i64 c.2.2)]]=E cCt (acc++[c]):=λc=>by rw[aS];rfl
    have hk:tlT x o2=if x.kind=7 then tr o2.trays x.a else tr o2.trays x.to:=by unfold tlT tlK;split<;>rfl
    cases hb:iU fr to (tlT x o2)
    .exact absurd (hbad hb) (by rw[h2];simp)
    rw[hb] at CT;have hnext:=hstep hb;generalize bR fr to (tlT x o2)=ct at *
    by_cases h7:x.kind=7
    .have e7:(x.kind==7)=true:=Bj.2 h7;rw[AY h7] at hk;rw[hk] at CT
     repeat' first|simp -dsimp only[go_sem,hw,gx,hxx,ga,gt,e7,hb,hsn,hla,cO,cS,cFd,cCt]|apply Br.mk<;>intro h<;>try simp -dsimp only[h]|refine aA.c (by first|exact DS|exact CT) ?_|refine aC ?_|refine aC9 ?_|fail
     all_goals first|omega|(refine⟨⟨(i+1,o2,acc++[ct]),by simp only;omega,hok,hnext⟩,?_,by simp only;omega⟩;simp[Vs.LeL,Vs.look,aB,aP,aJ,Vs.hset,aK,cO,hsn];done)
    .have e7:(x.kind==7)=false:=Ap.2 h7;rw[AJ h7] at hk;rw[hk] at CT
     repeat' first|simp -dsimp only[go_sem,hw,gx,hxx,ga,gt,e7,hb,hsn,hla,cO,cS,cFd,cCt]|apply Br.mk<;>intro h<;>try simp -dsimp only[h]|refine aA.c (by first|exact DS|exact CT) ?_|refine aC ?_|refine aC9 ?_|fail
     all_goals first|omega|(refine⟨⟨(i+1,o2,acc++[ct]),by simp only;omega,hok,hnext⟩,?_,by simp only;omega⟩;simp[Vs.LeL,Vs.look,aB,aP,aJ,Vs.hset,aK,cO,hsn];done)
   .rw[show dsV fl[i] o'=noO by unfold dsV;rw[AJ hd]] at DS;have e0:(dsC fl[i] o' != 0)=true:=by simp[hd]
    have hstop:=jW hlt hrun hd;rw[hR] at hstop;subst hstop;have hk1:(E cCt acc).take acc.length=E cCt acc:=Ag (by rw[aH];exact AL _);generalize dsC fl[i] o'=c at *
    repeat' first|simp -dsimp only[go_sem,hw,gx,e0,noO,hk1,cO,cS,cFd,cCt]|apply Br.mk<;>intro h<;>try simp -dsimp only[h]|refine aA.c (by first|exact DS) ?_|refine aC ?_|refine aC9 ?_|fail
    all_goals first|omega|exact⟨_,_,rfl,rfl⟩|exact⟨⟨_,_,rfl,rfl⟩,λh=>h rfl⟩|exact λ_=>⟨⟨_,_,rfl,rfl⟩,λh=>h rfl⟩|exact⟨λ_=>⟨_,_,rfl,rfl⟩,λh=>absurd rfl h⟩
  .have hge:i=fl.length:=by
    have:¬i<fl.length:=Dq;omega
   subst hge;have hstop:=vR hrun;rw[hR] at hstop;subst hstop;have hk1:(E cCt acc).take acc.length=E cCt acc:=Ag (by rw[aH];exact AL _)
   repeat' first|simp -dsimp only[go_sem,hk1,cO,cS,cFd,cCt]|apply Br.mk<;>intro h<;>try simp -dsimp only[h]|refine And.intro ?_ (λh=>absurd rfl h)|refine aC ?_|refine aC9 ?_|fail
   all_goals first|omega|exact⟨_,_,rfl,rfl⟩|exact⟨⟨_,_,rfl,rfl⟩,λh=>h rfl⟩|exact λ_=>⟨⟨_,_,rfl,rfl⟩,λh=>h rfl⟩|exact⟨λ_=>⟨_,_,rfl,rfl⟩,λh=>absurd rfl h⟩
attribute [local go_sem] Int.reduceBEq Int.reduceBNe cC aH Ai Ah Al Aq Ad Af Ac Ae Aa Ab Ao Ar Ay Az Bo Bq Vs.Name.t.injEq Ak AB Vs.Name.b.injEq A7 Bi cCt in
theorem yG (fr to:Int) (o:Off) (w:Nat) (ho:okO w o) (hn:kX fr to w=true) (fl:List Stp) (hz:∀x,x∈fl->x.text.size<=1048576) (hl:fl.length<=1048576) (h2:(alg fr to o fl).2=false):Fz F.dH [.agg (cO o),.sl 9 (E cS fl),.agg (cFd fr to)] (.tup [.v (.slice none 0 0),.v (.bool false)]):=by
 have hI0:=zV fr to o fl;generalize hR:alg fr to o fl=R at *
 refine fn0 Cd.i_controlsAlong_k λX=>?_
 repeat' first|simp -dsimp only[go_sem,cO,cS,cFd]|apply Br.mk<;>intro h<;>try simp -dsimp only[h]|refine aC ?_|refine aC9 ?_|fail
 refine aO.at dM (X:={p:Nat×Off×List (Int×Int×Int) // p.1<=fl.length∧okO w p.2.1∧aCh fr to o fl p.1 p.2.1 p.2.2}) (λp=>[(8,.loc (.t 8 0) 0 p.1.2.2.length),(19,.v (.int .i64 (p.1.1:Nat)))]) (λp=>[(.t 3 0,.var (cO p.1.2.1) false),(.t 8 0,.arr 3 (E cCt p.1.2.2) false)]) (λp=>fl.length-p.1.1) ⟨(0,o,[]),by simp,ho,hI0⟩ ?_ ?_
 .simp[Vs.LeL,Vs.look,aB,aP,aJ,Vs.hset,aK,cO,Vs.E]
 .rintro⟨⟨i,o',acc⟩,hi,ho',hrun⟩;dsimp only at hi ho' hrun;have hal:=hrun.2.2;simp -dsimp only[go_sem,cO,cS,cFd];refine Br.mk (λhc=>?_) λhc=>?_
  .have hlt:i<fl.length:=Dq;have hw:=aI hlt (by omega);have gx:(E cS fl).getD i []=cS fl[i]:=aR hlt;have DS:=aKB fl[i] (hz _ (Am hlt)) o' w ho';by_cases hd:dsC fl[i] o'=0
   .rw[show dsV fl[i] o'=.agg (cO (stO fl[i] o')) by unfold dsV;rw[AY hd],hd] at DS;have hx:=nC ho' (aKx hd);have htl:=tQ fl[i] o';have hok:=yE ho' hd;have hstep:=qZ hlt hrun hd;have hbad:=vS hlt hrun hd;rw[hR] at hbad;have hla:(E cD (stO fl[i] o').trays).length=(stO fl[i] o').trays.length:=aH _;generalize hxx:fl[i]=x at *
    generalize stO x o'=o2 at *
    have ta:0<=x.a∧x.a<(o2.trays.length:Int):=by have:=hx.a;omega
    have tt:0<=x.to∧x.to<(o2.trays.length:Int):=by have:=hx.to;omega
    have a0:=ta.1;have a1:=ta.2;have t0:=tt.1;have t1:=tt.2;have ga:=dN ta;have gt:=dN tt;have mk:tlT x o2∈o2.trays:=by unfold tlT tlK;split;exact dB ta;exact dB tt
    have CT:=o6 (tlT x o2) fr to (by have:=(bQ hok.1.2 (hok.2.2.1 _ mk)).1;omega) (tV hok hn mk);have hsn:∀c:Int×Int×Int,E cCt acc++[[.v (.int .i64 c.1),.v (.int .i64 c.2.1),.v (.int .i64 c.2.2)]]=E cCt (acc++[c]):=λc=>by rw[aS];rfl
    have hk:tlT x o2=if x.kind=7 then tr o2.trays x.a else tr o2.trays x.to:=by unfold tlT tlK;split<;>rfl
    cases hb:iU fr to (tlT x o2)
    rotate_left
    .rw[hb] at CT;have hnext:=hstep hb;generalize bR fr to (tlT x o2)=ct at *
     by_cases h7:x.kind=7
     all_goals
      simp only[h7,Bt,Bg] at hk;rw[hk] at CT
     .have e7:(x.kind==7)=true:=Bj.2 h7
      repeat' first|simp -dsimp only[go_sem,hw,gx,hxx,ga,gt,e7,hb,hsn,hla,cO,cS,cFd]|apply Br.mk<;>intro h<;>try simp -dsimp only[h]|refine aA.c (by first|exact DS|exact CT) ?_|refine aC ?_|refine aC9 ?_|fail
      all_goals first|omega|(refine⟨⟨(i+1,o2,acc++[ct]),by simp only;omega,hok,hnext⟩,?_,by simp only;omega⟩;simp[Vs.LeL,Vs.look,aB,aP,aJ,Vs.hset,aK,cO,hsn];done)
     .have e7:(x.kind==7)=false:=Ap.2 h7
      repeat' first|simp -dsimp only[go_sem,hw,gx,hxx,ga,gt,e7,hb,hsn,hla,cO,cS,cFd]|apply Br.mk<;>intro h<;>try simp -dsimp only[h]|refine aA.c (by first|exact DS|exact CT) ?_|refine aC ?_|refine aC9 ?_|fail
      all_goals first|omega|(refine⟨⟨(i+1,o2,acc++[ct]),by simp only;omega,hok,hnext⟩,?_,by simp only;omega⟩;simp[Vs.LeL,Vs.look,aB,aP,aJ,Vs.hset,aK,cO,hsn];done)
    .rw[hb] at CT;by_cases h7:x.kind=7
     all_goals
      simp only[h7,Bt,Bg] at hk;rw[hk] at CT hb
     .have e7:(x.kind==7)=true:=Bj.2 h7
      repeat' first|simp -dsimp only[go_sem,hw,gx,hxx,ga,gt,e7,hb,hsn,hla,cO,cS,cFd]|apply Br.mk<;>intro h<;>try simp -dsimp only[h]|refine aA.c (by first|exact DS|exact CT) ?_|refine aC ?_|refine aC9 ?_|fail
      all_goals first|omega|exact⟨_,_,rfl,rfl⟩|exact⟨⟨_,_,rfl,rfl⟩,λh=>h rfl⟩|exact λ_=>⟨⟨_,_,rfl,rfl⟩,λh=>h rfl⟩|exact⟨λ_=>⟨_,_,rfl,rfl⟩,λh=>absurd rfl h⟩
     .have e7:(x.kind==7)=false:=Ap.2 h7
      repeat' first|simp -dsimp only[go_sem,hw,gx,hxx,ga,gt,e7,hb,hsn,hla,cO,cS,cFd]|apply Br.mk<;>intro h<;>try simp -dsimp only[h]|refine aA.c (by first|exact DS|exact CT) ?_|refine aC ?_|refine aC9 ?_|fail
      all_goals first|omega|exact⟨_,_,rfl,rfl⟩|exact⟨⟨_,_,rfl,rfl⟩,λh=>h rfl⟩|exact λ_=>⟨⟨_,_,rfl,rfl⟩,λh=>h rfl⟩|exact⟨λ_=>⟨_,_,rfl,rfl⟩,λh=>absurd rfl h⟩
   .have hstop:=jW hlt hrun hd;rw[hR] at hstop;rw[hstop] at h2;cases h2
  .have hge:i=fl.length:=by
    have:¬i<fl.length:=Dq;omega
   subst hge;have hstop:=vR hrun;rw[hR] at hstop;rw[hstop] at h2;cases h2
end
end Go.Proofs.YtmiiohemehacjaaGreatDoor
