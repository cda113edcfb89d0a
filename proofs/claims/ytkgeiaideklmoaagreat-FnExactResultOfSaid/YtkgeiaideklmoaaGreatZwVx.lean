/- The result of a flow for a deck: the program and the reference. -/
import Derived.Test.YtkgeiaideklmoaaGreatZwVu
set_option linter.all false
set_option maxHeartbeats 8000000
namespace Go.Proofs.YtkgeiaideklmoaaGreat
open Go.Vs
section
variable [Vs.Envs]
attribute [local irreducible] Vs.Fn fG wO stC chOK areCh chTo chAt l03 chB rk cd3 chI stp stpTo
def roT (o:Off):AV:=if o.totals.length=0 then .v (.slice none 0 0) else .sl 1 (E cTs o.totals)
def roV (o:Off):List AV:=[.sl 1 (E cD o.trays),roT o]
def gT (o:Off):AV:=if o.totals.length=0 then .v (.slice none 0 0) else .loc (.t 9 1) 0 o.totals.length
def gHT (o:Off):List (Vs.Name×Blk):=if o.totals.length=0 then[] else[(.t 9 1,.arr 1 (E cTs o.totals) false)]
theorem gT_e {o:Off} (h:o.totals.length=0):gT o=.v (.slice none 0 0):=if_pos h
theorem gT_l {o:Off} (h:o.totals.length≠0):gT o=.loc (.t 9 1) 0 o.totals.length:=if_neg h
theorem gH_e {o:Off} (h:o.totals.length=0):gHT o=[]:=if_pos h
theorem gH_l {o:Off} (h:o.totals.length≠0):gHT o=[(.t 9 1,.arr 1 (E cTs o.totals) false)]:=if_neg h
theorem aEl {o:Off} (h:o.totals.length=0):roT o=.v (.slice none 0 0):=if_pos h
theorem aCE {o:Off} (h:o.totals.length≠0):roT o=.sl 1 (E cTs o.totals):=if_neg h
theorem roE {o:Off} (h:o.totals.length=0) {S:Nat→Prop}{w:World}{v:Value}{ρ:Vs.Name→Option Nat}{κ:Vs.Name→Nat}{hh:Vs.Name→Option Blk} (F:RV S w ρ κ hh (.ro [.sl 1 (E cD o.trays),.v (.slice none 0 0)]) v):RV S w ρ κ hh (.ro (cO o)) v:=by
 unfold cO;rw[List.eq_nil_of_length_eq_zero h];exact aLr F
theorem aHA (o:Off) (H:yJ o) (h:o.totals.length=0):Fz F.nE [.ro [.sl 1 (E cD o.trays),.v (.slice none 0 0)]] (.v (.int .i64 (wO o.trays))):=by
 refine aDQ (args':=[.ro (cO o)]) rfl (fun S w j v G ρ κ hh I=>?_) (aEH o H)
 match j,G with
 |0,_=>exact roE h I
theorem aIh (x:Stp) (o:Off):(stO x o).trays.length=o.trays.length:=by unfold stO;split<;>simp
theorem aGq {x:Stp}{o:Off} (F:x.kind≠7):(stO x o).totals=o.totals∧(stO x o).trays=o.trays.set x.to.toNat (dkL x (tr o.trays x.a) (tr o.trays x.b)):=by rw[aIf F];exact⟨rfl,rfl⟩
theorem aD9 {x:Stp}{o:Off} (F:x.kind=7):(stO x o).totals=o.totals++[iI x.f0 x.f1 x.s0 x.s1 (tr o.trays x.a)]∧(stO x o).trays=o.trays:=by rw[aFp F];exact⟨rfl,rfl⟩
attribute [local go_sem] Int.reduceBEq Int.reduceBNe cC cO cFd aI List.replicate_succ List.replicate_zero List.flatten_cons List.flatten_nil List.cons_append List.nil_append List.set_cons_zero List.set_cons_succ List.length_cons List.length_nil List.length_set List.mem_singleton List.mem_cons List.not_mem_nil or_false false_or Vs.Name.t.injEq List.getD_cons_zero List.getD_cons_succ Vs.Name.b.injEq List.getElem?_cons_zero List.getElem?_cons_succ in
theorem aLA (o:Off) (w:Nat) (ho:okO w o) (he:o.totals.length=0) (fl:List Stp) (hz:∀x,x∈fl→x.text.size≤1048576) (hl:fl.length≤1048576):Fz F.vS [.ro [.sl 1 (E cD o.trays),.v (.slice none 0 0)],.sl 9 (E cS fl)] (.tup [.agg (roV (run o fl).1),.v (.int .i64 ((run o fl).2:Nat))]):=by
 have OW:Vs.Fn Tryz.prog F.qI [] [.ro [.sl 1 (E cD o.trays),.v (.slice none 0 0)]] (.agg [.loc (.b 0) 0 o.trays.length,.v (.slice none 0 0)]) [some (.arr 1 (E cD o.trays) false)]:=by
  refine aDQ (args':=[.ro (cO o)]) rfl (fun S w j v hj ρ κ hh hv=>?_) (aKq o (fZ ho) (by rw[ho.2.1];omega) he)
  match j,hj with
  |0,_=>exact roE he hv
 have hI0:=aAy o fl;generalize hR:run o fl=R;refine fn0 Cd.s_l15Run_k fun X=>?_
 repeat' first|simp -dsimp only[go_sem,cS]|apply Br.mk<;>intro h<;>try simp -dsimp only[h]|refine aD.own (by first|exact OW) rfl ?_|refine aC ?_|fail
 refine aN.atR dM (X:={p:Nat×Off // p.1≤fl.length∧okO w p.2∧aBI o fl p.1 p.2}) (fun p=>[(7,.v (.int .i64 (p.1.1:Nat)))]) (fun p=>(.t 6 0,.var [.loc (.t 9 0) 0 p.1.2.trays.length,gT p.1.2] false)::(.t 9 0,.arr 1 (E cD p.1.2.trays) false)::gHT p.1.2) (fun p=>fl.length-p.1.1) ⟨(0,o),by simp,ho,hI0⟩ ?_ ?_
 ·simp[Vs.LeL,Vs.look,Vs.aB,Vs.aQ,Vs.aL,Vs.hset,Vs.aM,gT_e he,gH_e he]
 ·rintro⟨⟨i,o'⟩,hi,ho',hrun⟩;dsimp only at hi ho' hrun⊢;have hso:=fZ ho';have hd6:=ho'.2.1;have ht20:=ho'.2.2.2.1;have hk1:(E cD o'.trays).take o'.trays.length=E cD o'.trays:=List.take_of_length_le (by rw[aI];exact Nat.le_refl _);have hk2:(E cTs o'.totals).take o'.totals.length=E cTs o'.totals:=List.take_of_length_le (by rw[aI];exact Nat.le_refl _);by_cases he':o'.totals.length=0
  ·rw[gT_e he',gH_e he'];have WD:=aHA o' hso he'
   try simp -dsimp only[go_sem,cS]
   refine Br.mk (fun hc=>?_) fun hc=>?_
   ·have hlt:i<fl.length:=Dq;have hw:=aH hlt (by omega);have gx:(E cS fl).getD i []=cS fl[i]:=aS hlt;have hzx:=hz _ (List.getElem_mem hlt);have LS:=aDI fl[i] (wO o'.trays:Int) hzx;cases hv:fG fl[i] (wO o'.trays)
    ·rw[hv] at LS;have hstop:=qB hlt hrun (by unfold dsC;rw[hv];simp);rw[hR] at hstop;subst hstop
     repeat' first|simp -dsimp only[go_sem,gx,hk1,hk2,roV,aEl he',cS]|apply Br.mk<;>intro h<;>try simp -dsimp only[h]|refine aD.c (by first|exact WD|exact LS) ?_|refine aC ?_|fail
     all_goals first|omega|exact⟨_,_,rfl,rfl⟩|exact⟨⟨_,_,rfl,rfl⟩,fun h=>h rfl⟩
    ·rw[hv] at LS;by_cases h0:stC fl[i] o'=0
     ·have hd:dsC fl[i] o'=0:=by unfold dsC;rw[hv];exact h0
      have hnext:=xH hlt hrun hd;have hok:=aE1 ho' hd;have htl:=aIh fl[i] o';by_cases h7:fl[i].kind=7
      ·have DO:=aFH fl[i] hzx o' w ho' hv he' h7 h0;obtain⟨q1,q2⟩:=aD9 (o:=o') h7;have hm:(stO fl[i] o').totals.length=o'.totals.length+1:=by rw[q1,List.length_append];rfl
       have hne:(stO fl[i] o').totals.length≠0:=by omega
       have hgT:=gT_l hne;have hgH:=gH_l hne;generalize stO fl[i] o'=o2 at *
       repeat' first|simp -dsimp only[go_sem,gx,hw,cS]|apply Br.mk<;>intro h<;>try simp -dsimp only[h]|refine aD.borG (B:=[.t 6 0,.t 9 0]) (by first|exact DO) rfl ?_|refine aD.c (by first|exact WD|exact LS) ?_|refine aC ?_|fail
       all_goals first|omega|(refine⟨⟨(i+1,o2),by simp only;omega,hok,hnext⟩,.inr ⟨.t 26 2,.t 9 1,by decide,rfl,?_⟩,by simp only;omega⟩;simp[Vs.mX,Vs.nmF,Vs.rn,Vs.rnL,Vs.rnB,Vs.LeL,Vs.look,Vs.aB,Vs.aQ,Vs.aL,Vs.hset,Vs.aM,hgT,hgH,q1,q2];done)
      ·have DO:=aHE fl[i] hzx o' w ho' hv he' h7 h0;obtain⟨q1,q2⟩:=aGq (o:=o') h7;have he2:(stO fl[i] o').totals.length=0:=by rw[q1];exact he'
       have hgT:=gT_e he2;have hgH:=gH_e he2;generalize stO fl[i] o'=o2 at *
       repeat' first|simp -dsimp only[go_sem,gx,hw,cS]|apply Br.mk<;>intro h<;>try simp -dsimp only[h]|refine aD.borG (B:=[.t 6 0,.t 9 0]) (by first|exact DO) rfl ?_|refine aD.c (by first|exact WD|exact LS) ?_|refine aC ?_|fail
       all_goals first|omega|(refine⟨⟨(i+1,o2),by simp only;omega,hok,hnext⟩,.inl ?_,by simp only;omega⟩;simp[Vs.LeL,Vs.look,Vs.aB,Vs.aQ,Vs.aL,Vs.hset,Vs.aM,hgT,hgH,q1,q2];done)
     ·have DO:=aHD fl[i] hzx o' w ho' hv he' h0;have e0:(stC fl[i] o' != 0)=true:=by simp[h0]
      have hstop:=qB hlt hrun (by unfold dsC;rw[hv];exact h0);rw[hR] at hstop;subst hstop;generalize stC fl[i] o'=c at *
      repeat' first|simp -dsimp only[go_sem,gx,e0,hk1,hk2,roV,aEl he',cS]|apply Br.mk<;>intro h<;>try simp -dsimp only[h]|refine aD.borG (B:=[.t 6 0,.t 9 0]) (by first|exact DO) rfl ?_|refine aD.c (by first|exact WD|exact LS) ?_|refine aC ?_|fail
      all_goals first|omega|exact⟨_,_,rfl,rfl⟩|exact⟨⟨_,_,rfl,rfl⟩,fun h=>h rfl⟩
   ·have hge:i=fl.length:=by
     have:¬i<fl.length:=Dq;omega
    subst hge;have hstop:=zO hrun;rw[hR] at hstop;subst hstop
    repeat' first|simp -dsimp only[go_sem,hk1,hk2,roV,aEl he',cS]|apply Br.mk<;>intro h<;>try simp -dsimp only[h]|refine And.intro ?_ (fun h=>absurd rfl h)|refine aC ?_|fail
    all_goals first|omega|exact⟨_,_,rfl,rfl⟩|exact⟨⟨_,_,rfl,rfl⟩,fun h=>h rfl⟩
  ·rw[gT_l he',gH_l he'];have WD:=aEH o' hso
   try simp -dsimp only[go_sem,cS]
   refine Br.mk (fun hc=>?_) fun hc=>?_
   ·have hlt:i<fl.length:=Dq;have hw:=aH hlt (by omega);have gx:(E cS fl).getD i []=cS fl[i]:=aS hlt;have hzx:=hz _ (List.getElem_mem hlt);have LS:=aDI fl[i] (wO o'.trays:Int) hzx;cases hv:fG fl[i] (wO o'.trays)
    ·rw[hv] at LS;have hstop:=qB hlt hrun (by unfold dsC;rw[hv];simp);rw[hR] at hstop;subst hstop
     repeat' first|simp -dsimp only[go_sem,gx,hk1,hk2,roV,aCE he',cS]|apply Br.mk<;>intro h<;>try simp -dsimp only[h]|refine aD.c (by first|exact WD|exact LS) ?_|refine aC ?_|fail
     all_goals first|omega|exact⟨_,_,rfl,rfl⟩|exact⟨⟨_,_,rfl,rfl⟩,fun h=>h rfl⟩
    ·rw[hv] at LS;by_cases h0:stC fl[i] o'=0
     ·have hd:dsC fl[i] o'=0:=by unfold dsC;rw[hv];exact h0
      have hnext:=xH hlt hrun hd;have hok:=aE1 ho' hd;have htl:=aIh fl[i] o';by_cases h7:fl[i].kind=7
      ·have DO:=aFG fl[i] hzx o' w ho' hv h7 h0;obtain⟨q1,q2⟩:=aD9 (o:=o') h7;have hm:(stO fl[i] o').totals.length=o'.totals.length+1:=by rw[q1,List.length_append];rfl
       have hne:(stO fl[i] o').totals.length≠0:=by omega
       have hgT:=gT_l hne;have hgH:=gH_l hne;generalize stO fl[i] o'=o2 at *
       repeat' first|simp -dsimp only[go_sem,gx,hw,cS]|apply Br.mk<;>intro h<;>try simp -dsimp only[h]|refine aD.borG (B:=[.t 6 0,.t 9 0,.t 9 1]) (by first|exact DO) rfl ?_|refine aD.c (by first|exact WD|exact LS) ?_|refine aC ?_|fail
       all_goals first|omega|(refine⟨⟨(i+1,o2),by simp only;omega,hok,hnext⟩,.inr ⟨.t 26 3,.t 9 1,by decide,rfl,?_⟩,by simp only;omega⟩;simp[Vs.mX,Vs.nmF,Vs.rn,Vs.rnL,Vs.rnB,Vs.LeL,Vs.look,Vs.aB,Vs.aQ,Vs.aL,Vs.hset,Vs.aM,hgT,hgH,q1,q2];done)
      ·have DO:=aHC fl[i] hzx o' w ho' hv h7 h0;obtain⟨q1,q2⟩:=aGq (o:=o') h7;have he2:(stO fl[i] o').totals.length≠0:=by rw[q1];exact he'
       have hgT:=gT_l he2;have hgH:=gH_l he2;generalize stO fl[i] o'=o2 at *
       repeat' first|simp -dsimp only[go_sem,gx,hw,cS]|apply Br.mk<;>intro h<;>try simp -dsimp only[h]|refine aD.borG (B:=[.t 6 0,.t 9 0,.t 9 1]) (by first|exact DO) rfl ?_|refine aD.c (by first|exact WD|exact LS) ?_|refine aC ?_|fail
       all_goals first|omega|(refine⟨⟨(i+1,o2),by simp only;omega,hok,hnext⟩,.inl ?_,by simp only;omega⟩;simp[Vs.LeL,Vs.look,Vs.aB,Vs.aQ,Vs.aL,Vs.hset,Vs.aM,hgT,hgH,q1,q2];done)
     ·have DO:=aHB fl[i] hzx o' w ho' hv h0;have e0:(stC fl[i] o' != 0)=true:=by simp[h0]
      have hstop:=qB hlt hrun (by unfold dsC;rw[hv];exact h0);rw[hR] at hstop;subst hstop;generalize stC fl[i] o'=c at *
      repeat' first|simp -dsimp only[go_sem,gx,e0,hk1,hk2,roV,aCE he',cS]|apply Br.mk<;>intro h<;>try simp -dsimp only[h]|refine aD.borG (B:=[.t 6 0,.t 9 0,.t 9 1]) (by first|exact DO) rfl ?_|refine aD.c (by first|exact WD|exact LS) ?_|refine aC ?_|fail
      all_goals first|omega|exact⟨_,_,rfl,rfl⟩|exact⟨⟨_,_,rfl,rfl⟩,fun h=>h rfl⟩
   ·have hge:i=fl.length:=by
     have:¬i<fl.length:=Dq;omega
    subst hge;have hstop:=zO hrun;rw[hR] at hstop;subst hstop
    repeat' first|simp -dsimp only[go_sem,hk1,hk2,roV,aCE he',cS]|apply Br.mk<;>intro h<;>try simp -dsimp only[h]|refine And.intro ?_ (fun h=>absurd rfl h)|refine aC ?_|fail
    all_goals first|omega|exact⟨_,_,rfl,rfl⟩|exact⟨⟨_,_,rfl,rfl⟩,fun h=>h rfl⟩
end
section
variable [Vs.Envs]
attribute [local irreducible] Vs.Fn fG wO stC run chOK areCh chTo chAt l03 chB rk cd3 chI stp stpTo
attribute [local go_sem] cO
def rsB (fl:List Stp) (l:List (List Int)):Bool:=decide ((run (O0 l) fl).2=fl.length)&&decide ((run (O0 l) fl).1.totals.length=1)
def rsL (fl:List Stp) (l:List (List Int)):List Tot:=(run (O0 l) fl).1.totals.getD 0 []
def rsV (fl:List Stp) (l:List (List Int)):AV:=if rsB fl l then .sl 2 (E cT (rsL fl l)) else .v (.slice none 0 0)
attribute [local go_sem] Int.reduceBEq Int.reduceBNe cFd aI List.replicate_succ List.replicate_zero List.flatten_cons List.flatten_nil List.cons_append List.nil_append List.set_cons_zero List.set_cons_succ List.length_cons List.length_nil List.length_set List.mem_singleton List.mem_cons List.not_mem_nil or_false false_or Vs.Name.t.injEq List.getD_cons_zero List.getD_cons_succ Vs.Name.b.injEq List.getElem?_cons_zero List.getElem?_cons_succ in
theorem aCv (G:List Stp) (hz:∀x,x∈G→x.text.size≤1048576) (hl:G.length≤1048576) (l:List (List Int)) (hk:aU l) (hd:bB l=true):Fz F.jZ [.sl 9 (E cS G),.sl 1 (E cC l)] (.tup [rsV G l,.v (.bool (rsB G l))]):=by
 have L:=wL l hk hd;have O:=aDt G
 have M:Fz F.kJ [.agg [.sl 1 (yC l),.sl 1 []],.sl 9 (E cS G)] (.tup [.agg (cO (run (O0 l) G).1),.v (.int .i64 ((run (O0 l) G).2:Nat))]):=by
  refine aDQ (args':=[.agg (cO (O0 l)),.sl 9 (E cS G)]) rfl (fun S w j v hj ρ κ hh hv=>?_) (aJ0 (O0 l) _ (aDd hd) G hz hl)
  match j,hj with
  |0,_=>exact aGE hv
  |1,_=>exact hv
 generalize hf:yC l=RN at *
 have hb:=aDw G (O0 l) (aDd hd);unfold rsV;unfold rsB rsL;generalize run (O0 l) G=R at *
 obtain⟨H,n⟩:=R;obtain⟨ha,hn⟩:=hb;dsimp only at *
 have hc:=ha.2.2.2.1;by_cases he:n<G.length
 ·have J:decide ((n:Int)<(G.length:Int))=true:=decide_eq_true (by omega);have I:(decide (n=G.length)&&decide (H.totals.length=1))=false:=by rw[decide_eq_false (by omega)];rfl
  rw[I];refine fn0 Cd.i_resultOf_k fun X=>?_
  repeat' first|simp -dsimp only[go_sem,J,cC,cS]|apply Br.mk<;>intro h<;>try simp -dsimp only[h]|refine aD.c (by first|exact L|exact M|exact O) ?_|refine aC ?_|fail
  all_goals first|omega|exact⟨_,_,rfl,rfl⟩|(refine aV ?_;simp;done)
 have J:decide ((n:Int)<(G.length:Int))=false:=decide_eq_false (by omega);by_cases Y:H.totals.length=1
 ·have I:(decide (n=G.length)&&decide (H.totals.length=1))=true:=by rw[decide_eq_true (by omega),decide_eq_true Y];rfl
  rw[I,if_pos rfl];have U:((H.totals.length:Int) != 1)=false:=by simp[Y]
  have h0:0<H.totals.length:=by omega
  have g0:(E cTs H.totals).getD 0 []=[.sl 2 (E cT (H.totals.getD 0 []))]:=by rw[aCj h0];simp[List.getD,h0]
  refine fn0 Cd.i_resultOf_k fun X=>?_
  repeat' first|simp -dsimp only[go_sem,J,U,g0,cC,cS]|apply Br.mk<;>intro h<;>try simp -dsimp only[h]|refine aD.c (by first|exact L|exact M|exact O) ?_|refine aC ?_|fail
  all_goals first|omega|exact⟨_,_,rfl,rfl⟩|(refine aV ?_;simp;done)
 ·have I:(decide (n=G.length)&&decide (H.totals.length=1))=false:=by rw[decide_eq_false Y,Bool.and_false]
  rw[I];have U:((H.totals.length:Int) != 1)=true:=by simp;omega
  have e4:(((0:Nat):Int) != 1)=true:=by decide
  refine fn0 Cd.i_resultOf_k fun X=>?_
  repeat' first|simp -dsimp only[go_sem,J,U,e4,cC,cS]|apply Br.mk<;>intro h<;>try simp -dsimp only[h]|refine aD.c (by first|exact L|exact M|exact O) ?_|refine aC ?_|fail
  all_goals first|omega|exact⟨_,_,rfl,rfl⟩|(refine aV ?_;simp;done)
attribute [local go_sem] Int.reduceBEq Int.reduceBNe cFd aI List.replicate_succ List.replicate_zero List.flatten_cons List.flatten_nil List.cons_append List.nil_append List.set_cons_zero List.set_cons_succ List.length_cons List.length_nil List.length_set List.mem_singleton List.mem_cons List.not_mem_nil or_false false_or Vs.Name.t.injEq List.getD_cons_zero List.getD_cons_succ Vs.Name.b.injEq List.getElem?_cons_zero List.getElem?_cons_succ in
theorem aHz (I:List Stp) (hz:∀x,x∈I→x.text.size≤1048576) (hl:I.length≤1048576) (l:List (List Int)) (hk:aU l) (hd:bB l=true):Fz F.oD [.sl 9 (E cS I),.sl 1 (E cC l)] (.tup [rsV I l,.v (.bool (rsB I l))]):=by
 have M:=aLB l hk;have J:=aLA (O0 l) _ (aDd hd) rfl I hz hl;rw[show(O0 l).trays=T0 l from rfl] at J;generalize hf:T0 l=TL at *
 have hb:=aDw I (O0 l) (aDd hd);unfold rsV;unfold rsB rsL;generalize run (O0 l) I=R at *
 obtain⟨H,n⟩:=R;obtain⟨ha,hn⟩:=hb;dsimp only at *
 have hc:=ha.2.2.2.1;by_cases he:n<I.length
 ·have L:decide ((n:Int)<(I.length:Int))=true:=decide_eq_true (by omega);have O:(decide (n=I.length)&&decide (H.totals.length=1))=false:=by rw[decide_eq_false (by omega)];rfl
  rw[O];by_cases U:H.totals.length=0
  ·have G:=aEl U;rw[show roV H=[.sl 1 (E cD H.trays),.v (.slice none 0 0)] by unfold roV;rw[G]] at J;refine fn0 Cd.s_l17Result_k fun X=>?_
   repeat' first|simp -dsimp only[go_sem,L,roV,cC,cS]|apply Br.mk<;>intro h<;>try simp -dsimp only[h]|refine aD.c (by first|exact M|exact J) ?_|refine aC ?_|fail
   all_goals first|omega|exact⟨_,_,rfl,rfl⟩|(refine aV ?_;simp;done)
  ·have G:=aCE U;rw[show roV H=[.sl 1 (E cD H.trays),.sl 1 (E cTs H.totals)] by unfold roV;rw[G]] at J;refine fn0 Cd.s_l17Result_k fun X=>?_
   repeat' first|simp -dsimp only[go_sem,L,roV,cC,cS]|apply Br.mk<;>intro h<;>try simp -dsimp only[h]|refine aD.c (by first|exact M|exact J) ?_|refine aC ?_|fail
   all_goals first|omega|exact⟨_,_,rfl,rfl⟩|(refine aV ?_;simp;done)
 have L:decide ((n:Int)<(I.length:Int))=false:=decide_eq_false (by omega);by_cases h1:H.totals.length=1
 ·have O:(decide (n=I.length)&&decide (H.totals.length=1))=true:=by rw[decide_eq_true (by omega),decide_eq_true h1];rfl
  rw[O,if_pos rfl];have Y:((H.totals.length:Int) != 1)=false:=by simp[h1]
  have h0:0<H.totals.length:=by omega
  have g0:(E cTs H.totals).getD 0 []=[.sl 2 (E cT (H.totals.getD 0 []))]:=by rw[aCj h0];simp[List.getD,h0]
  have G:=aCE (by omega:H.totals.length≠0);rw[show roV H=[.sl 1 (E cD H.trays),.sl 1 (E cTs H.totals)] by unfold roV;rw[G]] at J;refine fn0 Cd.s_l17Result_k fun X=>?_
  repeat' first|simp -dsimp only[go_sem,L,Y,g0,cC,cS]|apply Br.mk<;>intro h<;>try simp -dsimp only[h]|refine aD.c (by first|exact M|exact J) ?_|refine aC ?_|fail
  all_goals first|omega|exact⟨_,_,rfl,rfl⟩|(refine aV ?_;simp;done)
 ·have O:(decide (n=I.length)&&decide (H.totals.length=1))=false:=by rw[decide_eq_false h1,Bool.and_false]
  rw[O];have Y:((H.totals.length:Int) != 1)=true:=by simp;omega
  have e4:(((0:Nat):Int) != 1)=true:=by decide
  by_cases U:H.totals.length=0
  ·have G:=aEl U;rw[show roV H=[.sl 1 (E cD H.trays),.v (.slice none 0 0)] by unfold roV;rw[G]] at J;refine fn0 Cd.s_l17Result_k fun X=>?_
   repeat' first|simp -dsimp only[go_sem,L,Y,e4,cC,cS]|apply Br.mk<;>intro h<;>try simp -dsimp only[h]|refine aD.c (by first|exact M|exact J) ?_|refine aC ?_|fail
   all_goals first|omega|exact⟨_,_,rfl,rfl⟩|(refine aV ?_;simp;done)
  ·have G:=aCE U;rw[show roV H=[.sl 1 (E cD H.trays),.sl 1 (E cTs H.totals)] by unfold roV;rw[G]] at J;refine fn0 Cd.s_l17Result_k fun X=>?_
   repeat' first|simp -dsimp only[go_sem,L,Y,e4,cC,cS]|apply Br.mk<;>intro h<;>try simp -dsimp only[h]|refine aD.c (by first|exact M|exact J) ?_|refine aC ?_|fail
   all_goals first|omega|exact⟨_,_,rfl,rfl⟩|(refine aV ?_;simp;done)
end
end Go.Proofs.YtkgeiaideklmoaaGreat
