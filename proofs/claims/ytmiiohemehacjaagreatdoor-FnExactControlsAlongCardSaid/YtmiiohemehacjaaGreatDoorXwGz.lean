/- The control totals along a flow: the program. -/
import Derived.Test.YtmiiohemehacjaaGreatDoorXwVr
import Derived.Test.YtmiiohemehacjaaGreatDoorVsI
set_option linter.all false
set_option maxHeartbeats 8000000
namespace Go.Proofs.YtmiiohemehacjaaGreatDoor
open Go.Vs
section
variable [Vs.Envs]
attribute [local irreducible] Vs.Fn chOK areCh chTo chAt l03 chB rk cd3 chI stp stpTo
end
section
variable [Vs.Envs]
attribute [local irreducible] Vs.Fn chOK areCh chTo chAt l03 chB rk cd3 chI stp stpTo
end
section
variable [Vs.Envs]
attribute [local irreducible] Vs.Fn mE wO stC chOK areCh chTo chAt l03 chB rk cd3 chI stp stpTo
theorem roE {o:Off} (h:o.totals.length=0) {S:Nat->Prop}{w:World}{v:Value}{ρ:Vs.Name->Option Nat}{κ:Vs.Name->Nat}{F:Vs.Name->Option Blk} (H:RV S w ρ κ F (.ro [.sl 1 (E cD o.trays),.v (.slice none 0 0)]) v):RV S w ρ κ F (.ro (cO o)) v:=by
 unfold cO;rw[List.eq_nil_of_length_eq_zero h];exact aM4 H
theorem aIX (o:Off) (I:dD o) (h:o.totals.length=0):Fz F.jP [.ro [.sl 1 (E cD o.trays),.v (.slice none 0 0)]] (.v (.int .i64 (wO o.trays))):=by
 refine aMe (args':=[.ro (cO o)]) rfl (λS w j v H ρ κ L J=>?_) (vH o I)
 match j,H with
 |0,_=>exact roE h J
theorem aEu (x:Stp) (o:Off):(stO x o).trays.length=o.trays.length:=by unfold stO;split<;>simp
theorem aHJ {x:Stp}{o:Off} (F:x.kind≠7):(stO x o).totals=o.totals∧(stO x o).trays=o.trays.set x.to.toNat (dkL x (tr o.trays x.a) (tr o.trays x.b)):=by rw[aMD F];exact⟨rfl,rfl⟩
theorem aFg {x:Stp}{o:Off} (F:x.kind=7):(stO x o).totals=o.totals++[oH x.f0 x.f1 x.s0 x.s1 (tr o.trays x.a)]∧(stO x o).trays=o.trays:=by rw[aJO F];exact⟨rfl,rfl⟩
end
section
variable [Vs.Tab 1 Vs.powP]
attribute [local irreducible] Vs.Fn mE wO stC run wN xA chOK areCh chTo chAt l03 chB rk cd3 chI stp stpTo
def caW (R:List (Int×Int×Int)×Bool):AV:=if R.2 then .sl 3 (E cCt R.1) else .v (.slice none 0 0)
theorem aDe {R:List (Int×Int×Int)×Bool} (h:R.2=false):caW R=.v (.slice none 0 0):=by unfold caW;rw[h];rfl
theorem aBp (l:List (Int×Int×Int)):caW (l,true)=.sl 3 (E cCt l):=rfl
theorem aKX {x:Stp}{o:Off} (h:dsC x o=0):mE x (wO o.trays)=true:=by
 unfold dsC at h;split at h
 .assumption
 .cases h
theorem aCE (fr to:Int) (o:Off) (I:dD o) (H:List Stp):Fz F.mX [.agg (cO o),.sl 9 (E cS H),.agg (cFd fr to)] (.v (.int .i64 (fbC fr to o H.length))):=by
 refine fn0 Cd.i_officeCode_k λX=>?_
 repeat' first|simp -dsimp only[go_sem,cFd,cO,aI]|apply Br.mk<;>intro h<;>try simp -dsimp only[h]|refine aD.c (by first|exact aBf o I|exact kU o I|exact zJ fr to _) ?_|refine aC ?_|fail
 all_goals(simp_all [fbC])
def gU (o:Off):AV:=if o.totals.length=0 then .v (.slice none 0 0) else .loc (.t 16 1) 0 o.totals.length
def gHU (o:Off):List (Vs.Name×Blk):=if o.totals.length=0 then[] else[(.t 16 1,.arr 1 (E cTs o.totals) false)]
theorem gU_e {o:Off} (h:o.totals.length=0):gU o=.v (.slice none 0 0):=if_pos h
theorem aKI {o:Off} (h:o.totals.length≠0):gU o=.loc (.t 16 1) 0 o.totals.length:=if_neg h
theorem aKJ {o:Off} (h:o.totals.length=0):gHU o=[]:=if_pos h
theorem aF0 {o:Off} (h:o.totals.length≠0):gHU o=[(.t 16 1,.arr 1 (E cTs o.totals) false)]:=if_neg h
def cdW (R:List (Int×Int×Int)×Bool):Int:=if R.2 then 0 else 8
attribute [local go_sem] Int.reduceBEq Int.reduceBNe cC aI List.replicate_succ List.replicate_zero List.flatten_cons List.flatten_nil List.cons_append List.nil_append List.set_cons_zero List.set_cons_succ List.length_cons List.length_nil List.length_set List.mem_singleton List.mem_cons List.not_mem_nil or_false false_or Vs.Name.t.injEq List.getD_cons_zero List.getD_cons_succ Vs.Name.b.injEq List.getElem?_cons_zero List.getElem?_cons_succ in
theorem aC5 (fr to:Int) (o:Off) (w:Nat) (ho:okO w o) (hn:nO fr to w=true) (fl:List Stp) (hz:∀x,x∈fl->x.text.size<=1048576) (hl:fl.length<=1048576) (h2:(alg fr to o fl).2=true):Vs.Fn Tryz.prog F.eO [] [.agg (cO o),.sl 9 (E cS fl),.agg (cFd fr to)] (.tup [.loc (.b 0) 0 (alg fr to o fl).1.length,.v (.bool true)]) [some (.arr 3 (E cCt (alg fr to o fl).1) false)]:=by
 have hI0:=aBu fr to o fl;generalize hR:alg fr to o fl=R at *
 refine fn1 Cd.i_controlsAlong_k [.t 8 0] [.arr 3 (E cCt R.1) false] λX=>?_;unfold Cd.eO
 repeat' first|simp -dsimp only[go_sem,cO,cS,cFd,cCt]|apply Br.mk<;>intro h<;>try simp -dsimp only[h]|refine aC ?_|fail
 refine aN.at dM (X:={p:Nat×Off×List (Int×Int×Int) // p.1<=fl.length∧okO w p.2.1∧aDA fr to o fl p.1 p.2.1 p.2.2}) (λp=>[(8,.loc (.t 8 0) 0 p.1.2.2.length),(19,.v (.int .i64 (p.1.1:Nat)))]) (λp=>[(.t 3 0,.var (cO p.1.2.1) false),(.t 8 0,.arr 3 (E cCt p.1.2.2) false)]) (λp=>fl.length-p.1.1) ⟨(0,o,[]),by simp,ho,hI0⟩ ?_ ?_
 .simp[Vs.LeL,Vs.look,Vs.aB,Vs.aR,Vs.aK,Vs.hset,Vs.aL,cO,Vs.E]
 .rintro⟨⟨i,o',acc⟩,hi,ho',hrun⟩;dsimp only at hi ho' hrun;have hal:=hrun.2.2;simp -dsimp only[go_sem,cO,cS,cFd,cCt];refine Br.mk (λhc=>?_) λhc=>?_
  .have hlt:i<fl.length:=Dq;have hw:=aH hlt (by omega);have gx:(E cS fl).getD i []=cS fl[i]:=aQ hlt;have DS:=aKY fl[i] (hz _ (List.getElem_mem hlt)) o' w ho';by_cases hd:dsC fl[i] o'=0
   .rw[show dsV fl[i] o'=.agg (cO (stO fl[i] o')) by unfold dsV;rw[if_pos hd],hd] at DS;have hx:=pX ho' (aKX hd);have htl:=aEu fl[i] o';have hok:=aIh ho' hd;have hstep:=y8 hlt hrun hd;have hbad:=aAW hlt hrun hd;rw[hR] at hbad;have hla:(E cD (stO fl[i] o').trays).length=(stO fl[i] o').trays.length:=aI _;generalize hxx:fl[i]=x at *
    generalize stO x o'=o2 at *
    have ta:0<=x.a∧x.a<(o2.trays.length:Int):=by have:=hx.a;omega
    have tt:0<=x.to∧x.to<(o2.trays.length:Int):=by have:=hx.to;omega
    have a0:=ta.1;have a1:=ta.2;have t0:=tt.1;have t1:=tt.2;have ga:=dS ta;have gt:=dS tt;have mk:tlT x o2∈o2.trays:=by unfold tlT tlK;split;exact dA ta;exact dA tt
    have CT:=aD6 (tlT x o2) fr to (by have:=(fT hok.1.2 (hok.2.2.1 _ mk)).1;omega) (aA7 hok hn mk);have hsn:∀c:Int×Int×Int,E cCt acc++[[.v (.int .i64 c.1),.v (.int .i64 c.2.1),.v (.int .i64 c.2.2)]]=E cCt (acc++[c]):=λc=>by rw[aV];rfl
    have hk:tlT x o2=if x.kind=7 then tr o2.trays x.a else tr o2.trays x.to:=by unfold tlT tlK;split<;>rfl
    cases hb:wN fr to (tlT x o2)
    .exact absurd (hbad hb) (by rw[h2];simp)
    rw[hb] at CT;have hnext:=hstep hb;generalize xA fr to (tlT x o2)=ct at *
    by_cases h7:x.kind=7
    .have e7:(x.kind==7)=true:=beq_iff_eq.2 h7;rw[if_pos h7] at hk;rw[hk] at CT
     repeat' first|simp -dsimp only[go_sem,hw,gx,hxx,ga,gt,e7,hb,hsn,hla,cO,cS,cFd,cCt]|apply Br.mk<;>intro h<;>try simp -dsimp only[h]|refine aD.c (by first|exact DS|exact CT) ?_|refine aC ?_|fail
     all_goals first|omega|(refine⟨⟨(i+1,o2,acc++[ct]),by simp only;omega,hok,hnext⟩,?_,by simp only;omega⟩;simp[Vs.LeL,Vs.look,Vs.aB,Vs.aR,Vs.aK,Vs.hset,Vs.aL,cO,hsn];done)
    .have e7:(x.kind==7)=false:=beq_eq_false_iff_ne.2 h7;rw[if_neg h7] at hk;rw[hk] at CT
     repeat' first|simp -dsimp only[go_sem,hw,gx,hxx,ga,gt,e7,hb,hsn,hla,cO,cS,cFd,cCt]|apply Br.mk<;>intro h<;>try simp -dsimp only[h]|refine aD.c (by first|exact DS|exact CT) ?_|refine aC ?_|fail
     all_goals first|omega|(refine⟨⟨(i+1,o2,acc++[ct]),by simp only;omega,hok,hnext⟩,?_,by simp only;omega⟩;simp[Vs.LeL,Vs.look,Vs.aB,Vs.aR,Vs.aK,Vs.hset,Vs.aL,cO,hsn];done)
   .rw[show dsV fl[i] o'=noO by unfold dsV;rw[if_neg hd]] at DS;have e0:(dsC fl[i] o' != 0)=true:=by simp[hd]
    have hstop:=rC hlt hrun hd;rw[hR] at hstop;subst hstop;have hk1:(E cCt acc).take acc.length=E cCt acc:=List.take_of_length_le (by rw[aI];exact Nat.le_refl _);generalize dsC fl[i] o'=c at *
    repeat' first|simp -dsimp only[go_sem,hw,gx,e0,noO,hk1,cO,cS,cFd,cCt]|apply Br.mk<;>intro h<;>try simp -dsimp only[h]|refine aD.c (by first|exact DS) ?_|refine aC ?_|fail
    all_goals first|omega|exact⟨_,_,rfl,rfl⟩|exact⟨⟨_,_,rfl,rfl⟩,λh=>h rfl⟩|exact λ_=>⟨⟨_,_,rfl,rfl⟩,λh=>h rfl⟩|exact⟨λ_=>⟨_,_,rfl,rfl⟩,λh=>absurd rfl h⟩
  .have hge:i=fl.length:=by
    have:¬i<fl.length:=Dq;omega
   subst hge;have hstop:=aAV hrun;rw[hR] at hstop;subst hstop;have hk1:(E cCt acc).take acc.length=E cCt acc:=List.take_of_length_le (by rw[aI];exact Nat.le_refl _)
   repeat' first|simp -dsimp only[go_sem,hk1,cO,cS,cFd,cCt]|apply Br.mk<;>intro h<;>try simp -dsimp only[h]|refine And.intro ?_ (λh=>absurd rfl h)|refine aC ?_|fail
   all_goals first|omega|exact⟨_,_,rfl,rfl⟩|exact⟨⟨_,_,rfl,rfl⟩,λh=>h rfl⟩|exact λ_=>⟨⟨_,_,rfl,rfl⟩,λh=>h rfl⟩|exact⟨λ_=>⟨_,_,rfl,rfl⟩,λh=>absurd rfl h⟩
attribute [local go_sem] Int.reduceBEq Int.reduceBNe cC aI List.replicate_succ List.replicate_zero List.flatten_cons List.flatten_nil List.cons_append List.nil_append List.set_cons_zero List.set_cons_succ List.length_cons List.length_nil List.length_set List.mem_singleton List.mem_cons List.not_mem_nil or_false false_or Vs.Name.t.injEq List.getD_cons_zero List.getD_cons_succ Vs.Name.b.injEq List.getElem?_cons_zero List.getElem?_cons_succ cCt in
theorem aC6 (fr to:Int) (o:Off) (w:Nat) (ho:okO w o) (hn:nO fr to w=true) (fl:List Stp) (hz:∀x,x∈fl->x.text.size<=1048576) (hl:fl.length<=1048576) (h2:(alg fr to o fl).2=false):Fz F.eO [.agg (cO o),.sl 9 (E cS fl),.agg (cFd fr to)] (.tup [.v (.slice none 0 0),.v (.bool false)]):=by
 have hI0:=aBu fr to o fl;generalize hR:alg fr to o fl=R at *
 refine fn0 Cd.i_controlsAlong_k λX=>?_
 repeat' first|simp -dsimp only[go_sem,cO,cS,cFd]|apply Br.mk<;>intro h<;>try simp -dsimp only[h]|refine aC ?_|fail
 refine aN.at dM (X:={p:Nat×Off×List (Int×Int×Int) // p.1<=fl.length∧okO w p.2.1∧aDA fr to o fl p.1 p.2.1 p.2.2}) (λp=>[(8,.loc (.t 8 0) 0 p.1.2.2.length),(19,.v (.int .i64 (p.1.1:Nat)))]) (λp=>[(.t 3 0,.var (cO p.1.2.1) false),(.t 8 0,.arr 3 (E cCt p.1.2.2) false)]) (λp=>fl.length-p.1.1) ⟨(0,o,[]),by simp,ho,hI0⟩ ?_ ?_
 .simp[Vs.LeL,Vs.look,Vs.aB,Vs.aR,Vs.aK,Vs.hset,Vs.aL,cO,Vs.E]
 .rintro⟨⟨i,o',acc⟩,hi,ho',hrun⟩;dsimp only at hi ho' hrun;have hal:=hrun.2.2;simp -dsimp only[go_sem,cO,cS,cFd];refine Br.mk (λhc=>?_) λhc=>?_
  .have hlt:i<fl.length:=Dq;have hw:=aH hlt (by omega);have gx:(E cS fl).getD i []=cS fl[i]:=aQ hlt;have DS:=aKY fl[i] (hz _ (List.getElem_mem hlt)) o' w ho';by_cases hd:dsC fl[i] o'=0
   .rw[show dsV fl[i] o'=.agg (cO (stO fl[i] o')) by unfold dsV;rw[if_pos hd],hd] at DS;have hx:=pX ho' (aKX hd);have htl:=aEu fl[i] o';have hok:=aIh ho' hd;have hstep:=y8 hlt hrun hd;have hbad:=aAW hlt hrun hd;rw[hR] at hbad;have hla:(E cD (stO fl[i] o').trays).length=(stO fl[i] o').trays.length:=aI _;generalize hxx:fl[i]=x at *
    generalize stO x o'=o2 at *
    have ta:0<=x.a∧x.a<(o2.trays.length:Int):=by have:=hx.a;omega
    have tt:0<=x.to∧x.to<(o2.trays.length:Int):=by have:=hx.to;omega
    have a0:=ta.1;have a1:=ta.2;have t0:=tt.1;have t1:=tt.2;have ga:=dS ta;have gt:=dS tt;have mk:tlT x o2∈o2.trays:=by unfold tlT tlK;split;exact dA ta;exact dA tt
    have CT:=aD6 (tlT x o2) fr to (by have:=(fT hok.1.2 (hok.2.2.1 _ mk)).1;omega) (aA7 hok hn mk);have hsn:∀c:Int×Int×Int,E cCt acc++[[.v (.int .i64 c.1),.v (.int .i64 c.2.1),.v (.int .i64 c.2.2)]]=E cCt (acc++[c]):=λc=>by rw[aV];rfl
    have hk:tlT x o2=if x.kind=7 then tr o2.trays x.a else tr o2.trays x.to:=by unfold tlT tlK;split<;>rfl
    cases hb:wN fr to (tlT x o2)
    rotate_left
    .rw[hb] at CT;have hnext:=hstep hb;generalize xA fr to (tlT x o2)=ct at *
     by_cases h7:x.kind=7
     all_goals
      simp only[h7,if_true,if_false] at hk;rw[hk] at CT
     .have e7:(x.kind==7)=true:=beq_iff_eq.2 h7
      repeat' first|simp -dsimp only[go_sem,hw,gx,hxx,ga,gt,e7,hb,hsn,hla,cO,cS,cFd]|apply Br.mk<;>intro h<;>try simp -dsimp only[h]|refine aD.c (by first|exact DS|exact CT) ?_|refine aC ?_|fail
      all_goals first|omega|(refine⟨⟨(i+1,o2,acc++[ct]),by simp only;omega,hok,hnext⟩,?_,by simp only;omega⟩;simp[Vs.LeL,Vs.look,Vs.aB,Vs.aR,Vs.aK,Vs.hset,Vs.aL,cO,hsn];done)
     .have e7:(x.kind==7)=false:=beq_eq_false_iff_ne.2 h7
      repeat' first|simp -dsimp only[go_sem,hw,gx,hxx,ga,gt,e7,hb,hsn,hla,cO,cS,cFd]|apply Br.mk<;>intro h<;>try simp -dsimp only[h]|refine aD.c (by first|exact DS|exact CT) ?_|refine aC ?_|fail
      all_goals first|omega|(refine⟨⟨(i+1,o2,acc++[ct]),by simp only;omega,hok,hnext⟩,?_,by simp only;omega⟩;simp[Vs.LeL,Vs.look,Vs.aB,Vs.aR,Vs.aK,Vs.hset,Vs.aL,cO,hsn];done)
    .rw[hb] at CT;by_cases h7:x.kind=7
     all_goals
      simp only[h7,if_true,if_false] at hk;rw[hk] at CT hb
     .have e7:(x.kind==7)=true:=beq_iff_eq.2 h7
      repeat' first|simp -dsimp only[go_sem,hw,gx,hxx,ga,gt,e7,hb,hsn,hla,cO,cS,cFd]|apply Br.mk<;>intro h<;>try simp -dsimp only[h]|refine aD.c (by first|exact DS|exact CT) ?_|refine aC ?_|fail
      all_goals first|omega|exact⟨_,_,rfl,rfl⟩|exact⟨⟨_,_,rfl,rfl⟩,λh=>h rfl⟩|exact λ_=>⟨⟨_,_,rfl,rfl⟩,λh=>h rfl⟩|exact⟨λ_=>⟨_,_,rfl,rfl⟩,λh=>absurd rfl h⟩
     .have e7:(x.kind==7)=false:=beq_eq_false_iff_ne.2 h7
      repeat' first|simp -dsimp only[go_sem,hw,gx,hxx,ga,gt,e7,hb,hsn,hla,cO,cS,cFd]|apply Br.mk<;>intro h<;>try simp -dsimp only[h]|refine aD.c (by first|exact DS|exact CT) ?_|refine aC ?_|fail
      all_goals first|omega|exact⟨_,_,rfl,rfl⟩|exact⟨⟨_,_,rfl,rfl⟩,λh=>h rfl⟩|exact λ_=>⟨⟨_,_,rfl,rfl⟩,λh=>h rfl⟩|exact⟨λ_=>⟨_,_,rfl,rfl⟩,λh=>absurd rfl h⟩
   .have hstop:=rC hlt hrun hd;rw[hR] at hstop;rw[hstop] at h2;cases h2
  .have hge:i=fl.length:=by
    have:¬i<fl.length:=Dq;omega
   subst hge;have hstop:=aAV hrun;rw[hR] at hstop;rw[hstop] at h2;cases h2
end
end Go.Proofs.YtmiiohemehacjaaGreatDoor
