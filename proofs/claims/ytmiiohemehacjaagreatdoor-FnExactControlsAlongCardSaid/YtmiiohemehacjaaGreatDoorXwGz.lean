/- The control totals along a flow: the program. -/
import Derived.Test.YtmiiohemehacjaaGreatDoorXwVr
import Derived.Test.YtmiiohemehacjaaGreatDoorVsI
set_option linter.all false
set_option maxHeartbeats 8000000
namespace Go.Proofs.YtmiiohemehacjaaGreatDoor
open Go.Vs
section
variable [Vs.Envs]
attribute [local irreducible] Vs.Fn chOK areCh chTo chAt l03 chB rk cd3 chI stp stpTo
end
section
variable [Vs.Envs]
attribute [local irreducible] Vs.Fn chOK areCh chTo chAt l03 chB rk cd3 chI stp stpTo
end
section
variable [Vs.Envs]
attribute [local irreducible] Vs.Fn mE wO stC chOK areCh chTo chAt l03 chB rk cd3 chI stp stpTo
theorem roE {o:Off} (h:o.totals.length=0) {S:Nat->Prop}{w:World}{v:Value}{ρ:Vs.Name->Option Nat}{κ:Vs.Name->Nat}{F:Vs.Name->Option Blk} (H:RV S w ρ κ F (.ro [.sl 1 (E cD o.trays),.v (.slice none 0 0)]) v):RV S w ρ κ F (.ro (cO o)) v:=by
 unfold cO;rw[List.eq_nil_of_length_eq_zero h];exact aM4 H
theorem aIX (o:Off) (I:dD o) (h:o.totals.length=0):Fz F.jP [.ro [.sl 1 (E cD o.trays),.v (.slice none 0 0)]] (.v (.int .i64 (wO o.trays))):=by
 refine aMe (args':=[.ro (cO o)]) rfl (λS w j v H ρ κ L J=>?_) (vH o I)
 match j,H with
 |0,_=>exact roE h J
theorem aEu (x:Stp) (o:Off):(stO x o).trays.length=o.trays.length:=by unfold stO;split<;>simp
theorem aHJ {x:Stp}{o:Off} (F:x.kind≠7):(stO x o).totals=o.totals∧(stO x o).trays=o.trays.set x.to.toNat (dkL x (tr o.trays x.a) (tr o.trays x.b)):=by rw[aMD F];exact⟨rfl,rfl⟩
theorem aFg {x:Stp}{o:Off} (F:x.kind=7):(stO x o).totals=o.totals++[oH x.f0 x.f1 x.s0 x.s1 (tr o.trays x.a)]∧(stO x o).trays=o.trays:=by rw[aJO F];exact⟨rfl,rfl⟩
end
section
variable [Vs.Tab 1 Vs.powP]
attribute [local irreducible] Vs.Fn mE wO stC run wN xA chOK areCh chTo chAt l03 chB rk cd3 chI stp stpTo
def caW (R:List (Int×Int×Int)×Bool):AV:=if R.2 then .sl 3 (E cCt R.1) else .v (.slice none 0 0)
theorem aDe {R:List (Int×Int×Int)×Bool} (h:R.2=false):caW R=.v (.slice none 0 0):=by unfold caW;rw[h];rfl
theorem aBp (l:List (Int×Int×Int)):caW (l,true)=.sl 3 (E cCt l):=rfl
theorem aKX {x:Stp}{o:Off} (h:dsC x o=0):mE x (wO o.trays)=true:=by
 unfold dsC at h;split at h
 .assumption
 .cases h
theorem aCE (fr to:Int) (o:Off) (I:dD o) (H:List Stp):Fz F.mX [.agg (cO o),.sl 9 (E cS H),.agg (cFd fr to)] (.v (.int .i64 (fbC fr to o H.length))):=by
 refine fn0 Cd.i_officeCode_k λX=>?_
 repeat' first|simp -dsimp only[go_sem,cFd,cO,aI]|apply Br.mk<;>intro h<;>try simp -dsimp only[h]|refine aD.c (by first|exact aBf o I|exact kU o I|exact zJ fr to _) ?_|refine aC ?_|fail
 all_goals(simp_all [fbC])
def gU (o:Off):AV:=if o.totals.length=0 then .v (.slice none 0 0) else .loc (.t 16 1) 0 o.totals.length
def gHU (o:Off):List (Vs.Name×Blk):=if o.totals.length=0 then[] else[(.t 16 1,.arr 1 (E cTs o.totals) false)]
theorem gU_e {o:Off} (h:o.totals.length=0):gU o=.v (.slice none 0 0):=if_pos h
theorem aKI {o:Off} (h:o.totals.length≠0):gU o=.loc (.t 16 1) 0 o.totals.length:=if_neg h
theorem aKJ {o:Off} (h:o.totals.length=0):gHU o=[]:=if_pos h
theorem aF0 {o:Off} (h:o.totals.length≠0):gHU o=[(.t 16 1,.arr 1 (E cTs o.totals) false)]:=if_neg h
def cdW (R:List (Int×Int×Int)×Bool):Int:=if R.2 then 0 else 8
attribute [local go_sem] Int.reduceBEq Int.reduceBNe cC aI List.replicate_succ List.replicate_zero List.flatten_cons List.flatten_nil List.cons_append List.nil_append List.set_cons_zero List.set_cons_succ List.length_cons List.length_nil List.length_set List.mem_singleton List.mem_cons List.not_mem_nil or_false false_or Vs.Name.t.injEq List.getD_cons_zero List.getD_cons_succ Vs.Name.b.injEq List.getElem?_cons_zero List.getElem?_cons_succ in
theorem aC5 (fr to:Int) (o:Off) (w:Nat) (ho:okO w o) (hn:nO fr to w=true) (I:List Stp) (hz:∀x,x∈I->x.text.size<=1048576) (hl:I.length<=1048576) (h2:(alg fr to o I).2=true):Vs.Fn Tryz.prog F.eO [] [.agg (cO o),.sl 9 (E cS I),.agg (cFd fr to)] (.tup [.loc (.b 0) 0 (alg fr to o I).1.length,.v (.bool true)]) [some (.arr 3 (E cCt (alg fr to o I).1) false)]:=by
 have hp:=aBu fr to o I;generalize hR:alg fr to o I=R at *
 refine fn1 Cd.i_controlsAlong_k [.t 8 0] [.arr 3 (E cCt R.1) false] λX=>?_;unfold Cd.eO
 repeat' first|simp -H only[go_sem,cO,cS,cFd,cCt]|apply Br.mk<;>intro h<;>try simp -H only[h]|refine aC ?_|fail
 refine aN.at dM (X:={p:Nat×Off×List (Int×Int×Int) // p.1<=I.length∧okO w p.2.1∧aDA fr to o I p.1 p.2.1 p.2.2}) (λp=>[(8,.loc (.t 8 0) 0 p.1.2.2.length),(19,.v (.int .i64 (p.1.1:Nat)))]) (λp=>[(.t 3 0,.var (cO p.1.2.1) false),(.t 8 0,.arr 3 (E cCt p.1.2.2) false)]) (λp=>I.length-p.1.1) ⟨(0,o,[]),by simp,ho,hp⟩ ?_ ?_
 .simp[Vs.LeL,Vs.look,Vs.aB,Vs.aR,Vs.aK,Vs.hset,Vs.aL,cO,Vs.E]
 .rintro⟨⟨i,o',L⟩,hi,ha,O⟩;H only at hi ha O;have hr:=O.2.2;simp -H only[go_sem,cO,cS,cFd,cCt];refine Br.mk (λhc=>?_) λhc=>?_
  .have U:i<I.length:=Dq;have hw:=aH U (by omega);have gx:(E cS I).getD i []=cS I[i]:=aQ U;have DS:=aKY I[i] (hz _ (List.getElem_mem U)) o' w ha;by_cases hd:dsC I[i] o'=0
   .rw[show dsV I[i] o'=.agg (cO (stO I[i] o')) by unfold dsV;rw[if_pos hd],hd] at DS;have hx:=pX ha (aKX hd);have hs:=aEu I[i] o';have Z:=aIh ha hd;have hh:=y8 U O hd;have hf:=aAW U O hd;rw[hR] at hf;have hj:(E cD (stO I[i] o').trays).length=(stO I[i] o').trays.length:=aI _;generalize hm:I[i]=x at *
    generalize stO x o'=o2 at *
    have ta:0<=x.a∧x.a<(o2.trays.length:Int):=by have:=hx.a;omega
    have tt:0<=x.to∧x.to<(o2.trays.length:Int):=by have:=hx.to;omega
    have a0:=ta.1;have a1:=ta.2;have t0:=tt.1;have t1:=tt.2;have ga:=dS ta;have gt:=dS tt;have mk:tlT x o2∈o2.trays:=by unfold tlT tlK;split;exact dA ta;exact dA tt
    have CT:=aD6 (tlT x o2) fr to (by have:=(fT Z.1.2 (Z.2.2.1 _ mk)).1;omega) (aA7 Z hn mk);have he:∀c:Int×Int×Int,E cCt L++[[.v (.int .i64 c.1),.v (.int .i64 c.2.1),.v (.int .i64 c.2.2)]]=E cCt (L++[c]):=λc=>by rw[aV];rfl
    have hk:tlT x o2=if x.kind=7 then tr o2.trays x.a else tr o2.trays x.to:=by unfold tlT tlK;split<;>rfl
    cases hb:wN fr to (tlT x o2)
    .exact absurd (hf hb) (by rw[h2];simp)
    rw[hb] at CT;have Y:=hh hb;generalize xA fr to (tlT x o2)=ct at *
    by_cases h7:x.kind=7
    .have e7:(x.kind==7)=true:=beq_iff_eq.2 h7;rw[if_pos h7] at hk;rw[hk] at CT
     repeat' first|simp -H only[go_sem,hw,gx,hm,ga,gt,e7,hb,he,hj,cO,cS,cFd,cCt]|apply Br.mk<;>intro h<;>try simp -H only[h]|refine aD.c (by first|exact DS|exact CT) ?_|refine aC ?_|fail
     all_goals first|omega|(refine⟨⟨(i+1,o2,L++[ct]),by simp only;omega,Z,Y⟩,?_,by simp only;omega⟩;simp[Vs.LeL,Vs.look,Vs.aB,Vs.aR,Vs.aK,Vs.hset,Vs.aL,cO,he];done)
    .have e7:(x.kind==7)=false:=beq_eq_false_iff_ne.2 h7;rw[if_neg h7] at hk;rw[hk] at CT
     repeat' first|simp -H only[go_sem,hw,gx,hm,ga,gt,e7,hb,he,hj,cO,cS,cFd,cCt]|apply Br.mk<;>intro h<;>try simp -H only[h]|refine aD.c (by first|exact DS|exact CT) ?_|refine aC ?_|fail
     all_goals first|omega|(refine⟨⟨(i+1,o2,L++[ct]),by simp only;omega,Z,Y⟩,?_,by simp only;omega⟩;simp[Vs.LeL,Vs.look,Vs.aB,Vs.aR,Vs.aK,Vs.hset,Vs.aL,cO,he];done)
   .rw[show dsV I[i] o'=noO by unfold dsV;rw[if_neg hd]] at DS;have e0:(dsC I[i] o' != 0)=true:=by simp[hd]
    have J:=rC U O hd;rw[hR] at J;subst J;have hg:(E cCt L).take L.length=E cCt L:=List.take_of_length_le (by rw[aI];exact Nat.le_refl _);generalize dsC I[i] o'=c at *
    repeat' first|simp -H only[go_sem,hw,gx,e0,noO,hg,cO,cS,cFd,cCt]|apply Br.mk<;>intro h<;>try simp -H only[h]|refine aD.c (by first|exact DS) ?_|refine aC ?_|fail
    all_goals first|omega|exact⟨_,_,rfl,rfl⟩|exact⟨⟨_,_,rfl,rfl⟩,λh=>h rfl⟩|exact λ_=>⟨⟨_,_,rfl,rfl⟩,λh=>h rfl⟩|exact⟨λ_=>⟨_,_,rfl,rfl⟩,λh=>absurd rfl h⟩
  .have hq:i=I.length:=by
    have:¬i<I.length:=Dq;omega
   subst hq;have J:=aAV O;rw[hR] at J;subst J;have hg:(E cCt L).take L.length=E cCt L:=List.take_of_length_le (by rw[aI];exact Nat.le_refl _)
   repeat' first|simp -H only[go_sem,hg,cO,cS,cFd,cCt]|apply Br.mk<;>intro h<;>try simp -H only[h]|refine And.intro ?_ (λh=>absurd rfl h)|refine aC ?_|fail
   all_goals first|omega|exact⟨_,_,rfl,rfl⟩|exact⟨⟨_,_,rfl,rfl⟩,λh=>h rfl⟩|exact λ_=>⟨⟨_,_,rfl,rfl⟩,λh=>h rfl⟩|exact⟨λ_=>⟨_,_,rfl,rfl⟩,λh=>absurd rfl h⟩
attribute [local go_sem] Int.reduceBEq Int.reduceBNe cC aI List.replicate_succ List.replicate_zero List.flatten_cons List.flatten_nil List.cons_append List.nil_append List.set_cons_zero List.set_cons_succ List.length_cons List.length_nil List.length_set List.mem_singleton List.mem_cons List.not_mem_nil or_false false_or Vs.Name.t.injEq List.getD_cons_zero List.getD_cons_succ Vs.Name.b.injEq List.getElem?_cons_zero List.getElem?_cons_succ cCt in
theorem aC6 (fr to:Int) (o:Off) (w:Nat) (ho:okO w o) (hn:nO fr to w=true) (J:List Stp) (hz:∀x,x∈J->x.text.size<=1048576) (hl:J.length<=1048576) (h2:(alg fr to o J).2=false):Fz F.eO [.agg (cO o),.sl 9 (E cS J),.agg (cFd fr to)] (.tup [.v (.slice none 0 0),.v (.bool false)]):=by
 have hm:=aBu fr to o J;generalize hR:alg fr to o J=R at *
 refine fn0 Cd.i_controlsAlong_k λX=>?_
 repeat' first|simp -H only[go_sem,cO,cS,cFd]|apply Br.mk<;>intro h<;>try simp -H only[h]|refine aC ?_|fail
 refine aN.at dM (X:={p:Nat×Off×List (Int×Int×Int) // p.1<=J.length∧okO w p.2.1∧aDA fr to o J p.1 p.2.1 p.2.2}) (λp=>[(8,.loc (.t 8 0) 0 p.1.2.2.length),(19,.v (.int .i64 (p.1.1:Nat)))]) (λp=>[(.t 3 0,.var (cO p.1.2.1) false),(.t 8 0,.arr 3 (E cCt p.1.2.2) false)]) (λp=>J.length-p.1.1) ⟨(0,o,[]),by simp,ho,hm⟩ ?_ ?_
 .simp[Vs.LeL,Vs.look,Vs.aB,Vs.aR,Vs.aK,Vs.hset,Vs.aL,cO,Vs.E]
 .rintro⟨⟨i,o',ha⟩,hi,hf,L⟩;H only at hi hf L;have hq:=L.2.2;simp -H only[go_sem,cO,cS,cFd];refine Br.mk (λhc=>?_) λhc=>?_
  .have O:i<J.length:=Dq;have hw:=aH O (by omega);have gx:(E cS J).getD i []=cS J[i]:=aQ O;have DS:=aKY J[i] (hz _ (List.getElem_mem O)) o' w hf;by_cases hd:dsC J[i] o'=0
   .rw[show dsV J[i] o'=.agg (cO (stO J[i] o')) by unfold dsV;rw[if_pos hd],hd] at DS;have hx:=pX hf (aKX hd);have hr:=aEu J[i] o';have Z:=aIh hf hd;have hh:=y8 O L hd;have hj:=aAW O L hd;rw[hR] at hj;have he:(E cD (stO J[i] o').trays).length=(stO J[i] o').trays.length:=aI _;generalize hg:J[i]=x at *
    generalize stO x o'=o2 at *
    have ta:0<=x.a∧x.a<(o2.trays.length:Int):=by have:=hx.a;omega
    have tt:0<=x.to∧x.to<(o2.trays.length:Int):=by have:=hx.to;omega
    have a0:=ta.1;have a1:=ta.2;have t0:=tt.1;have t1:=tt.2;have ga:=dS ta;have gt:=dS tt;have mk:tlT x o2∈o2.trays:=by unfold tlT tlK;split;exact dA ta;exact dA tt
    have CT:=aD6 (tlT x o2) fr to (by have:=(fT Z.1.2 (Z.2.2.1 _ mk)).1;omega) (aA7 Z hn mk);have U:∀c:Int×Int×Int,E cCt ha++[[.v (.int .i64 c.1),.v (.int .i64 c.2.1),.v (.int .i64 c.2.2)]]=E cCt (ha++[c]):=λc=>by rw[aV];rfl
    have hk:tlT x o2=if x.kind=7 then tr o2.trays x.a else tr o2.trays x.to:=by unfold tlT tlK;split<;>rfl
    cases hb:wN fr to (tlT x o2)
    rotate_left
    .rw[hb] at CT;have Y:=hh hb;generalize xA fr to (tlT x o2)=ct at *
     by_cases h7:x.kind=7
     all_goals
      simp only[h7,if_true,if_false] at hk;rw[hk] at CT
     .have e7:(x.kind==7)=true:=beq_iff_eq.2 h7
      repeat' first|simp -H only[go_sem,hw,gx,hg,ga,gt,e7,hb,U,he,cO,cS,cFd]|apply Br.mk<;>intro h<;>try simp -H only[h]|refine aD.c (by first|exact DS|exact CT) ?_|refine aC ?_|fail
      all_goals first|omega|(refine⟨⟨(i+1,o2,ha++[ct]),by simp only;omega,Z,Y⟩,?_,by simp only;omega⟩;simp[Vs.LeL,Vs.look,Vs.aB,Vs.aR,Vs.aK,Vs.hset,Vs.aL,cO,U];done)
     .have e7:(x.kind==7)=false:=beq_eq_false_iff_ne.2 h7
      repeat' first|simp -H only[go_sem,hw,gx,hg,ga,gt,e7,hb,U,he,cO,cS,cFd]|apply Br.mk<;>intro h<;>try simp -H only[h]|refine aD.c (by first|exact DS|exact CT) ?_|refine aC ?_|fail
      all_goals first|omega|(refine⟨⟨(i+1,o2,ha++[ct]),by simp only;omega,Z,Y⟩,?_,by simp only;omega⟩;simp[Vs.LeL,Vs.look,Vs.aB,Vs.aR,Vs.aK,Vs.hset,Vs.aL,cO,U];done)
    .rw[hb] at CT;by_cases h7:x.kind=7
     all_goals
      simp only[h7,if_true,if_false] at hk;rw[hk] at CT hb
     .have e7:(x.kind==7)=true:=beq_iff_eq.2 h7
      repeat' first|simp -H only[go_sem,hw,gx,hg,ga,gt,e7,hb,U,he,cO,cS,cFd]|apply Br.mk<;>intro h<;>try simp -H only[h]|refine aD.c (by first|exact DS|exact CT) ?_|refine aC ?_|fail
      all_goals first|omega|exact⟨_,_,rfl,rfl⟩|exact⟨⟨_,_,rfl,rfl⟩,λh=>h rfl⟩|exact λ_=>⟨⟨_,_,rfl,rfl⟩,λh=>h rfl⟩|exact⟨λ_=>⟨_,_,rfl,rfl⟩,λh=>absurd rfl h⟩
     .have e7:(x.kind==7)=false:=beq_eq_false_iff_ne.2 h7
      repeat' first|simp -H only[go_sem,hw,gx,hg,ga,gt,e7,hb,U,he,cO,cS,cFd]|apply Br.mk<;>intro h<;>try simp -H only[h]|refine aD.c (by first|exact DS|exact CT) ?_|refine aC ?_|fail
      all_goals first|omega|exact⟨_,_,rfl,rfl⟩|exact⟨⟨_,_,rfl,rfl⟩,λh=>h rfl⟩|exact λ_=>⟨⟨_,_,rfl,rfl⟩,λh=>h rfl⟩|exact⟨λ_=>⟨_,_,rfl,rfl⟩,λh=>absurd rfl h⟩
   .have I:=rC O L hd;rw[hR] at I;rw[I] at h2;cases h2
  .have hp:i=J.length:=by
    have:¬i<J.length:=Dq;omega
   subst hp;have I:=aAV L;rw[hR] at I;rw[I] at h2;cases h2
end
end Go.Proofs.YtmiiohemehacjaaGreatDoor
