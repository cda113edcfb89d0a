/- The result of a flow for a deck: the program and the reference. -/
import Derived.Test.YthfnpdhpefialaaGreatYwVu
set_option linter.all false
set_option maxHeartbeats 8000000
namespace Go.Proofs.YthfnpdhpefialaaGreat
open Go.Vs
section
variable [Vs.Envs]
attribute [local irreducible] Vs.Fn stpB wO stC chOK areCh chTo chAt l03 chB rk cd3 chI stp stpTo
def roT (o:Off):AV:=if o.totals.length=0 then .v (.slice none 0 0) else .sl 1 (E cTs o.totals)
def roV (o:Off):List AV:=[.sl 1 (E cD o.trays),roT o]
def gT (o:Off):AV:=if o.totals.length=0 then .v (.slice none 0 0) else .loc (.t 9 1) 0 o.totals.length
def gHT (o:Off):List (Vs.Name×Blk):=if o.totals.length=0 then[] else[(.t 9 1,.arr 1 (E cTs o.totals) false)]
theorem gT_e {o:Off} (h:o.totals.length=0):gT o=.v (.slice none 0 0):=if_pos h
theorem gT_l {o:Off} (h:o.totals.length≠0):gT o=.loc (.t 9 1) 0 o.totals.length:=if_neg h
theorem gH_e {o:Off} (h:o.totals.length=0):gHT o=[]:=if_pos h
theorem gH_l {o:Off} (h:o.totals.length≠0):gHT o=[(.t 9 1,.arr 1 (E cTs o.totals) false)]:=if_neg h
theorem roT_e {o:Off} (h:o.totals.length=0):roT o=.v (.slice none 0 0):=if_pos h
theorem roT_l {o:Off} (h:o.totals.length≠0):roT o=.sl 1 (E cTs o.totals):=if_neg h
theorem roE {o:Off} (h:o.totals.length=0) {S:Nat→Prop}{w:World}{v:Value}{ρ:Vs.Name→Option Nat}{κ:Vs.Name→Nat}{hh:Vs.Name→Option Blk} (hv:RV S w ρ κ hh (.ro [.sl 1 (E cD o.trays),.v (.slice none 0 0)]) v):RV S w ρ κ hh (.ro (cO o)) v:=by
 unfold cO
 rw[List.eq_nil_of_length_eq_zero h]
 exact ro_nil hv
theorem l15WidthE (o:Off) (ho:smallO o) (h:o.totals.length=0):Fz F.s_l15Width [.ro [.sl 1 (E cD o.trays),.v (.slice none 0 0)]] (.v (.int .i64 (wO o.trays))):=by
 refine fn_args (args':=[.ro (cO o)]) rfl (fun S w j v hj ρ κ hh hv=>?_) (l15Width o ho)
 match j,hj with
 |0,_=>exact roE h hv
theorem stO_tr (x:Stp) (o:Off):(stO x o).trays.length=o.trays.length:=by unfold stO;split<;>simp
theorem stO_dkT {x:Stp}{o:Off} (h7:x.kind≠7):(stO x o).totals=o.totals∧(stO x o).trays=o.trays.set x.to.toNat (dkL x (tr o.trays x.a) (tr o.trays x.b)):=by rw[st_dk h7];exact⟨rfl,rfl⟩
theorem stO_totT {x:Stp}{o:Off} (h7:x.kind=7):(stO x o).totals=o.totals++[totL x.f0 x.f1 x.s0 x.s1 (tr o.trays x.a)]∧(stO x o).trays=o.trays:=by rw[st_tot h7];exact⟨rfl,rfl⟩
attribute [local go_sem] Int.reduceBEq Int.reduceBNe cC cO cFd E_len List.replicate_succ List.replicate_zero List.flatten_cons List.flatten_nil List.cons_append List.nil_append List.set_cons_zero List.set_cons_succ List.length_cons List.length_nil List.length_set List.mem_singleton List.mem_cons List.not_mem_nil or_false false_or Vs.Name.t.injEq List.getD_cons_zero List.getD_cons_succ Vs.Name.b.injEq List.getElem?_cons_zero List.getElem?_cons_succ in
theorem l15Run (o:Off) (w:Nat) (ho:okO w o) (he:o.totals.length=0) (fl:List Stp) (hz:∀x,x∈fl→x.text.size≤1048576) (hl:fl.length≤1048576):Fz F.s_l15Run [.ro [.sl 1 (E cD o.trays),.v (.slice none 0 0)],.sl 9 (E cS fl)] (.tup [.agg (roV (run o fl).1),.v (.int .i64 ((run o fl).2:Nat))]):=by
 have OW:Vs.Fn Tryz.prog F.s_l15Own [] [.ro [.sl 1 (E cD o.trays),.v (.slice none 0 0)]] (.agg [.loc (.b 0) 0 o.trays.length,.v (.slice none 0 0)]) [some (.arr 1 (E cD o.trays) false)]:=by
  refine fn_args (args':=[.ro (cO o)]) rfl (fun S w j v hj ρ κ hh hv=>?_) (l15OwnE o (okO_small ho) (by rw[ho.2.1];omega) he)
  match j,hj with
  |0,_=>exact roE he hv
 have hI0:=runI_zero o fl
 generalize hR:run o fl=R
 refine fn0 Cd.s_l15Run_k fun X=>?_
 repeat' first|simp -dsimp only[go_sem,cS]|apply Br.mk<;>intro h<;>try simp -dsimp only[h]|refine CallK.own (by first|exact OW) rfl ?_|refine aC ?_|fail
 refine LoopK.atR dM (X:={p:Nat×Off // p.1≤fl.length∧okO w p.2∧runI o fl p.1 p.2}) (fun p=>[(7,.v (.int .i64 (p.1.1:Nat)))]) (fun p=>(.t 6 0,.var [.loc (.t 9 0) 0 p.1.2.trays.length,gT p.1.2] false)::(.t 9 0,.arr 1 (E cD p.1.2.trays) false)::gHT p.1.2) (fun p=>fl.length-p.1.1) ⟨(0,o),by simp,ho,hI0⟩ ?_ ?_
 ·simp[Vs.LeL,Vs.look,Vs.hlook,Vs.sput,Vs.sputs,Vs.hset,Vs.hputs,gT_e he,gH_e he]
 ·rintro⟨⟨i,o'⟩,hi,ho',hrun⟩
  dsimp only at hi ho' hrun⊢
  have hso:=okO_small ho'
  have hd6:=ho'.2.1
  have ht20:=ho'.2.2.2.1
  have hk1:(E cD o'.trays).take o'.trays.length=E cD o'.trays:=List.take_of_length_le (by rw[E_len];exact Nat.le_refl _)
  have hk2:(E cTs o'.totals).take o'.totals.length=E cTs o'.totals:=List.take_of_length_le (by rw[E_len];exact Nat.le_refl _)
  by_cases he':o'.totals.length=0
  ·rw[gT_e he',gH_e he']
   have WD:=l15WidthE o' hso he'
   try simp -dsimp only[go_sem,cS]
   refine Br.mk (fun hc=>?_) fun hc=>?_
   ·have hlt:i<fl.length:=Dq
    have hw:=wrap_succ hlt (by omega)
    have gx:(E cS fl).getD i []=cS fl[i]:=E_get hlt
    have hzx:=hz _ (List.getElem_mem hlt)
    have LS:=l15Step fl[i] (wO o'.trays:Int) hzx
    cases hv:stpB fl[i] (wO o'.trays)
    ·rw[hv] at LS
     have hstop:=runI_stop hlt hrun (by unfold dsC;rw[hv];simp)
     rw[hR] at hstop
     subst hstop
     repeat' first|simp -dsimp only[go_sem,gx,hk1,hk2,roV,roT_e he',cS]|apply Br.mk<;>intro h<;>try simp -dsimp only[h]|refine CallK.c (by first|exact WD|exact LS) ?_|refine aC ?_|fail
     all_goals first|omega|exact⟨_,_,rfl,rfl⟩|exact⟨⟨_,_,rfl,rfl⟩,fun h=>h rfl⟩
    ·rw[hv] at LS
     by_cases h0:stC fl[i] o'=0
     ·have hd:dsC fl[i] o'=0:=by unfold dsC;rw[hv];exact h0
      have hnext:=runI_step hlt hrun hd
      have hok:=ds_ok ho' hd
      have htl:=stO_tr fl[i] o'
      by_cases h7:fl[i].kind=7
      ·have DO:=l15DoE_tot fl[i] hzx o' w ho' hv he' h7 h0
       obtain⟨q1,q2⟩:=stO_totT (o:=o') h7
       have hm:(stO fl[i] o').totals.length=o'.totals.length+1:=by rw[q1,List.length_append];rfl
       have hne:(stO fl[i] o').totals.length≠0:=by omega
       have hgT:=gT_l hne
       have hgH:=gH_l hne
       generalize stO fl[i] o'=o2 at *
       repeat' first|simp -dsimp only[go_sem,gx,hw,cS]|apply Br.mk<;>intro h<;>try simp -dsimp only[h]|refine CallK.borG (B:=[.t 6 0,.t 9 0]) (by first|exact DO) rfl ?_|refine CallK.c (by first|exact WD|exact LS) ?_|refine aC ?_|fail
       all_goals first|omega|(refine⟨⟨(i+1,o2),by simp only;omega,hok,hnext⟩,.inr ⟨.t 26 2,.t 9 1,by decide,rfl,?_⟩,by simp only;omega⟩;simp[Vs.renL,Vs.nmF,Vs.rn,Vs.rnL,Vs.rnB,Vs.LeL,Vs.look,Vs.hlook,Vs.sput,Vs.sputs,Vs.hset,Vs.hputs,hgT,hgH,q1,q2];done)
      ·have DO:=l15DoE_dk fl[i] hzx o' w ho' hv he' h7 h0
       obtain⟨q1,q2⟩:=stO_dkT (o:=o') h7
       have he2:(stO fl[i] o').totals.length=0:=by rw[q1];exact he'
       have hgT:=gT_e he2
       have hgH:=gH_e he2
       generalize stO fl[i] o'=o2 at *
       repeat' first|simp -dsimp only[go_sem,gx,hw,cS]|apply Br.mk<;>intro h<;>try simp -dsimp only[h]|refine CallK.borG (B:=[.t 6 0,.t 9 0]) (by first|exact DO) rfl ?_|refine CallK.c (by first|exact WD|exact LS) ?_|refine aC ?_|fail
       all_goals first|omega|(refine⟨⟨(i+1,o2),by simp only;omega,hok,hnext⟩,.inl ?_,by simp only;omega⟩;simp[Vs.LeL,Vs.look,Vs.hlook,Vs.sput,Vs.sputs,Vs.hset,Vs.hputs,hgT,hgH,q1,q2];done)
     ·have DO:=l15DoE_no fl[i] hzx o' w ho' hv he' h0
      have e0:(stC fl[i] o' != 0)=true:=by simp[h0]
      have hstop:=runI_stop hlt hrun (by unfold dsC;rw[hv];exact h0)
      rw[hR] at hstop
      subst hstop
      generalize stC fl[i] o'=c at *
      repeat' first|simp -dsimp only[go_sem,gx,e0,hk1,hk2,roV,roT_e he',cS]|apply Br.mk<;>intro h<;>try simp -dsimp only[h]|refine CallK.borG (B:=[.t 6 0,.t 9 0]) (by first|exact DO) rfl ?_|refine CallK.c (by first|exact WD|exact LS) ?_|refine aC ?_|fail
      all_goals first|omega|exact⟨_,_,rfl,rfl⟩|exact⟨⟨_,_,rfl,rfl⟩,fun h=>h rfl⟩
   ·have hge:i=fl.length:=by
     have:¬i<fl.length:=Dq
     omega
    subst hge
    have hstop:=runI_end hrun
    rw[hR] at hstop
    subst hstop
    repeat' first|simp -dsimp only[go_sem,hk1,hk2,roV,roT_e he',cS]|apply Br.mk<;>intro h<;>try simp -dsimp only[h]|refine And.intro ?_ (fun h=>absurd rfl h)|refine aC ?_|fail
    all_goals first|omega|exact⟨_,_,rfl,rfl⟩|exact⟨⟨_,_,rfl,rfl⟩,fun h=>h rfl⟩
  ·rw[gT_l he',gH_l he']
   have WD:=l15Width o' hso
   try simp -dsimp only[go_sem,cS]
   refine Br.mk (fun hc=>?_) fun hc=>?_
   ·have hlt:i<fl.length:=Dq
    have hw:=wrap_succ hlt (by omega)
    have gx:(E cS fl).getD i []=cS fl[i]:=E_get hlt
    have hzx:=hz _ (List.getElem_mem hlt)
    have LS:=l15Step fl[i] (wO o'.trays:Int) hzx
    cases hv:stpB fl[i] (wO o'.trays)
    ·rw[hv] at LS
     have hstop:=runI_stop hlt hrun (by unfold dsC;rw[hv];simp)
     rw[hR] at hstop
     subst hstop
     repeat' first|simp -dsimp only[go_sem,gx,hk1,hk2,roV,roT_l he',cS]|apply Br.mk<;>intro h<;>try simp -dsimp only[h]|refine CallK.c (by first|exact WD|exact LS) ?_|refine aC ?_|fail
     all_goals first|omega|exact⟨_,_,rfl,rfl⟩|exact⟨⟨_,_,rfl,rfl⟩,fun h=>h rfl⟩
    ·rw[hv] at LS
     by_cases h0:stC fl[i] o'=0
     ·have hd:dsC fl[i] o'=0:=by unfold dsC;rw[hv];exact h0
      have hnext:=runI_step hlt hrun hd
      have hok:=ds_ok ho' hd
      have htl:=stO_tr fl[i] o'
      by_cases h7:fl[i].kind=7
      ·have DO:=l15DoL_tot fl[i] hzx o' w ho' hv h7 h0
       obtain⟨q1,q2⟩:=stO_totT (o:=o') h7
       have hm:(stO fl[i] o').totals.length=o'.totals.length+1:=by rw[q1,List.length_append];rfl
       have hne:(stO fl[i] o').totals.length≠0:=by omega
       have hgT:=gT_l hne
       have hgH:=gH_l hne
       generalize stO fl[i] o'=o2 at *
       repeat' first|simp -dsimp only[go_sem,gx,hw,cS]|apply Br.mk<;>intro h<;>try simp -dsimp only[h]|refine CallK.borG (B:=[.t 6 0,.t 9 0,.t 9 1]) (by first|exact DO) rfl ?_|refine CallK.c (by first|exact WD|exact LS) ?_|refine aC ?_|fail
       all_goals first|omega|(refine⟨⟨(i+1,o2),by simp only;omega,hok,hnext⟩,.inr ⟨.t 26 3,.t 9 1,by decide,rfl,?_⟩,by simp only;omega⟩;simp[Vs.renL,Vs.nmF,Vs.rn,Vs.rnL,Vs.rnB,Vs.LeL,Vs.look,Vs.hlook,Vs.sput,Vs.sputs,Vs.hset,Vs.hputs,hgT,hgH,q1,q2];done)
      ·have DO:=l15DoL_dk fl[i] hzx o' w ho' hv h7 h0
       obtain⟨q1,q2⟩:=stO_dkT (o:=o') h7
       have he2:(stO fl[i] o').totals.length≠0:=by rw[q1];exact he'
       have hgT:=gT_l he2
       have hgH:=gH_l he2
       generalize stO fl[i] o'=o2 at *
       repeat' first|simp -dsimp only[go_sem,gx,hw,cS]|apply Br.mk<;>intro h<;>try simp -dsimp only[h]|refine CallK.borG (B:=[.t 6 0,.t 9 0,.t 9 1]) (by first|exact DO) rfl ?_|refine CallK.c (by first|exact WD|exact LS) ?_|refine aC ?_|fail
       all_goals first|omega|(refine⟨⟨(i+1,o2),by simp only;omega,hok,hnext⟩,.inl ?_,by simp only;omega⟩;simp[Vs.LeL,Vs.look,Vs.hlook,Vs.sput,Vs.sputs,Vs.hset,Vs.hputs,hgT,hgH,q1,q2];done)
     ·have DO:=l15DoL_no fl[i] hzx o' w ho' hv h0
      have e0:(stC fl[i] o' != 0)=true:=by simp[h0]
      have hstop:=runI_stop hlt hrun (by unfold dsC;rw[hv];exact h0)
      rw[hR] at hstop
      subst hstop
      generalize stC fl[i] o'=c at *
      repeat' first|simp -dsimp only[go_sem,gx,e0,hk1,hk2,roV,roT_l he',cS]|apply Br.mk<;>intro h<;>try simp -dsimp only[h]|refine CallK.borG (B:=[.t 6 0,.t 9 0,.t 9 1]) (by first|exact DO) rfl ?_|refine CallK.c (by first|exact WD|exact LS) ?_|refine aC ?_|fail
      all_goals first|omega|exact⟨_,_,rfl,rfl⟩|exact⟨⟨_,_,rfl,rfl⟩,fun h=>h rfl⟩
   ·have hge:i=fl.length:=by
     have:¬i<fl.length:=Dq
     omega
    subst hge
    have hstop:=runI_end hrun
    rw[hR] at hstop
    subst hstop
    repeat' first|simp -dsimp only[go_sem,hk1,hk2,roV,roT_l he',cS]|apply Br.mk<;>intro h<;>try simp -dsimp only[h]|refine And.intro ?_ (fun h=>absurd rfl h)|refine aC ?_|fail
    all_goals first|omega|exact⟨_,_,rfl,rfl⟩|exact⟨⟨_,_,rfl,rfl⟩,fun h=>h rfl⟩
end
section
variable [Vs.Envs]
attribute [local irreducible] Vs.Fn stpB wO stC run chOK areCh chTo chAt l03 chB rk cd3 chI stp stpTo
attribute [local go_sem] cO
def rsB (fl:List Stp) (l:List (List Int)):Bool:=decide ((run (O0 l) fl).2=fl.length)&&decide ((run (O0 l) fl).1.totals.length=1)
def rsL (fl:List Stp) (l:List (List Int)):List Tot:=(run (O0 l) fl).1.totals.getD 0 []
def rsV (fl:List Stp) (l:List (List Int)):AV:=if rsB fl l then .sl 2 (E cT (rsL fl l)) else .v (.slice none 0 0)
attribute [local go_sem] Int.reduceBEq Int.reduceBNe cFd E_len List.replicate_succ List.replicate_zero List.flatten_cons List.flatten_nil List.cons_append List.nil_append List.set_cons_zero List.set_cons_succ List.length_cons List.length_nil List.length_set List.mem_singleton List.mem_cons List.not_mem_nil or_false false_or Vs.Name.t.injEq List.getD_cons_zero List.getD_cons_succ Vs.Name.b.injEq List.getElem?_cons_zero List.getElem?_cons_succ in
theorem impl_resultOf (fl:List Stp) (hz:∀x,x∈fl→x.text.size≤1048576) (hl:fl.length≤1048576) (l:List (List Int)) (hk:smallC l) (hd:deckB l=true):Fz F.i_resultOf [.sl 9 (E cS fl),.sl 1 (E cC l)] (.tup [rsV fl l,.v (.bool (rsB fl l))]):=by
 have NW:=impl_NewOffice l hk hd
 have SZ:=sizeSt fl
 have RF:Fz F.i_runFlow [.agg [.sl 1 (rowsN l),.sl 1 []],.sl 9 (E cS fl)] (.tup [.agg (cO (run (O0 l) fl).1),.v (.int .i64 ((run (O0 l) fl).2:Nat))]):=by
  refine fn_args (args':=[.agg (cO (O0 l)),.sl 9 (E cS fl)]) rfl (fun S w j v hj ρ κ hh hv=>?_) (runFlow (O0 l) _ (O0_ok hd) fl hz hl)
  match j,hj with
  |0,_=>exact off_nil hv
  |1,_=>exact hv
 generalize hrn:rowsN l=RN at *
 have hok:=run_ok fl (O0 l) (O0_ok hd)
 unfold rsV
 unfold rsB rsL
 generalize run (O0 l) fl=R at *
 obtain⟨o',n⟩:=R
 obtain⟨ho',hn⟩:=hok
 dsimp only at *
 have ht20:=ho'.2.2.2.1
 by_cases hlt:n<fl.length
 ·have e1:decide ((n:Int)<(fl.length:Int))=true:=decide_eq_true (by omega)
  have e2:(decide (n=fl.length)&&decide (o'.totals.length=1))=false:=by rw[decide_eq_false (by omega)];rfl
  rw[e2]
  refine fn0 Cd.i_resultOf_k fun X=>?_
  repeat' first|simp -dsimp only[go_sem,e1,cC,cS]|apply Br.mk<;>intro h<;>try simp -dsimp only[h]|refine CallK.c (by first|exact NW|exact RF|exact SZ) ?_|refine aC ?_|fail
  all_goals first|omega|exact⟨_,_,rfl,rfl⟩|(refine ret_eq ?_;simp;done)
 have e1:decide ((n:Int)<(fl.length:Int))=false:=decide_eq_false (by omega)
 by_cases h1:o'.totals.length=1
 ·have e2:(decide (n=fl.length)&&decide (o'.totals.length=1))=true:=by rw[decide_eq_true (by omega),decide_eq_true h1];rfl
  rw[e2,if_pos rfl]
  have e3:((o'.totals.length:Int) != 1)=false:=by simp[h1]
  have h0:0<o'.totals.length:=by omega
  have g0:(E cTs o'.totals).getD 0 []=[.sl 2 (E cT (o'.totals.getD 0 []))]:=by rw[cTs_at h0];simp[List.getD,h0]
  refine fn0 Cd.i_resultOf_k fun X=>?_
  repeat' first|simp -dsimp only[go_sem,e1,e3,g0,cC,cS]|apply Br.mk<;>intro h<;>try simp -dsimp only[h]|refine CallK.c (by first|exact NW|exact RF|exact SZ) ?_|refine aC ?_|fail
  all_goals first|omega|exact⟨_,_,rfl,rfl⟩|(refine ret_eq ?_;simp;done)
 ·have e2:(decide (n=fl.length)&&decide (o'.totals.length=1))=false:=by rw[decide_eq_false h1,Bool.and_false]
  rw[e2]
  have e3:((o'.totals.length:Int) != 1)=true:=by simp;omega
  have e4:(((0:Nat):Int) != 1)=true:=by decide
  refine fn0 Cd.i_resultOf_k fun X=>?_
  repeat' first|simp -dsimp only[go_sem,e1,e3,e4,cC,cS]|apply Br.mk<;>intro h<;>try simp -dsimp only[h]|refine CallK.c (by first|exact NW|exact RF|exact SZ) ?_|refine aC ?_|fail
  all_goals first|omega|exact⟨_,_,rfl,rfl⟩|(refine ret_eq ?_;simp;done)
attribute [local go_sem] Int.reduceBEq Int.reduceBNe cFd E_len List.replicate_succ List.replicate_zero List.flatten_cons List.flatten_nil List.cons_append List.nil_append List.set_cons_zero List.set_cons_succ List.length_cons List.length_nil List.length_set List.mem_singleton List.mem_cons List.not_mem_nil or_false false_or Vs.Name.t.injEq List.getD_cons_zero List.getD_cons_succ Vs.Name.b.injEq List.getElem?_cons_zero List.getElem?_cons_succ in
theorem l17Result (fl:List Stp) (hz:∀x,x∈fl→x.text.size≤1048576) (hl:fl.length≤1048576) (l:List (List Int)) (hk:smallC l) (hd:deckB l=true):Fz F.s_l17Result [.sl 9 (E cS fl),.sl 1 (E cC l)] (.tup [rsV fl l,.v (.bool (rsB fl l))]):=by
 have NW:=l15New l hk
 have RF:=l15Run (O0 l) _ (O0_ok hd) rfl fl hz hl
 rw[show(O0 l).trays=T0 l from rfl] at RF
 generalize hrn:T0 l=TL at *
 have hok:=run_ok fl (O0 l) (O0_ok hd)
 unfold rsV
 unfold rsB rsL
 generalize run (O0 l) fl=R at *
 obtain⟨o',n⟩:=R
 obtain⟨ho',hn⟩:=hok
 dsimp only at *
 have ht20:=ho'.2.2.2.1
 by_cases hlt:n<fl.length
 ·have e1:decide ((n:Int)<(fl.length:Int))=true:=decide_eq_true (by omega)
  have e2:(decide (n=fl.length)&&decide (o'.totals.length=1))=false:=by rw[decide_eq_false (by omega)];rfl
  rw[e2]
  by_cases hT:o'.totals.length=0
  ·have hroT:=roT_e hT
   rw[show roV o'=[.sl 1 (E cD o'.trays),.v (.slice none 0 0)] by unfold roV;rw[hroT]] at RF
   refine fn0 Cd.s_l17Result_k fun X=>?_
   repeat' first|simp -dsimp only[go_sem,e1,roV,cC,cS]|apply Br.mk<;>intro h<;>try simp -dsimp only[h]|refine CallK.c (by first|exact NW|exact RF) ?_|refine aC ?_|fail
   all_goals first|omega|exact⟨_,_,rfl,rfl⟩|(refine ret_eq ?_;simp;done)
  ·have hroT:=roT_l hT
   rw[show roV o'=[.sl 1 (E cD o'.trays),.sl 1 (E cTs o'.totals)] by unfold roV;rw[hroT]] at RF
   refine fn0 Cd.s_l17Result_k fun X=>?_
   repeat' first|simp -dsimp only[go_sem,e1,roV,cC,cS]|apply Br.mk<;>intro h<;>try simp -dsimp only[h]|refine CallK.c (by first|exact NW|exact RF) ?_|refine aC ?_|fail
   all_goals first|omega|exact⟨_,_,rfl,rfl⟩|(refine ret_eq ?_;simp;done)
 have e1:decide ((n:Int)<(fl.length:Int))=false:=decide_eq_false (by omega)
 by_cases h1:o'.totals.length=1
 ·have e2:(decide (n=fl.length)&&decide (o'.totals.length=1))=true:=by rw[decide_eq_true (by omega),decide_eq_true h1];rfl
  rw[e2,if_pos rfl]
  have e3:((o'.totals.length:Int) != 1)=false:=by simp[h1]
  have h0:0<o'.totals.length:=by omega
  have g0:(E cTs o'.totals).getD 0 []=[.sl 2 (E cT (o'.totals.getD 0 []))]:=by rw[cTs_at h0];simp[List.getD,h0]
  have hroT:=roT_l (by omega:o'.totals.length≠0)
  rw[show roV o'=[.sl 1 (E cD o'.trays),.sl 1 (E cTs o'.totals)] by unfold roV;rw[hroT]] at RF
  refine fn0 Cd.s_l17Result_k fun X=>?_
  repeat' first|simp -dsimp only[go_sem,e1,e3,g0,cC,cS]|apply Br.mk<;>intro h<;>try simp -dsimp only[h]|refine CallK.c (by first|exact NW|exact RF) ?_|refine aC ?_|fail
  all_goals first|omega|exact⟨_,_,rfl,rfl⟩|(refine ret_eq ?_;simp;done)
 ·have e2:(decide (n=fl.length)&&decide (o'.totals.length=1))=false:=by rw[decide_eq_false h1,Bool.and_false]
  rw[e2]
  have e3:((o'.totals.length:Int) != 1)=true:=by simp;omega
  have e4:(((0:Nat):Int) != 1)=true:=by decide
  by_cases hT:o'.totals.length=0
  ·have hroT:=roT_e hT
   rw[show roV o'=[.sl 1 (E cD o'.trays),.v (.slice none 0 0)] by unfold roV;rw[hroT]] at RF
   refine fn0 Cd.s_l17Result_k fun X=>?_
   repeat' first|simp -dsimp only[go_sem,e1,e3,e4,cC,cS]|apply Br.mk<;>intro h<;>try simp -dsimp only[h]|refine CallK.c (by first|exact NW|exact RF) ?_|refine aC ?_|fail
   all_goals first|omega|exact⟨_,_,rfl,rfl⟩|(refine ret_eq ?_;simp;done)
  ·have hroT:=roT_l hT
   rw[show roV o'=[.sl 1 (E cD o'.trays),.sl 1 (E cTs o'.totals)] by unfold roV;rw[hroT]] at RF
   refine fn0 Cd.s_l17Result_k fun X=>?_
   repeat' first|simp -dsimp only[go_sem,e1,e3,e4,cC,cS]|apply Br.mk<;>intro h<;>try simp -dsimp only[h]|refine CallK.c (by first|exact NW|exact RF) ?_|refine aC ?_|fail
   all_goals first|omega|exact⟨_,_,rfl,rfl⟩|(refine ret_eq ?_;simp;done)
end
end Go.Proofs.YthfnpdhpefialaaGreat
