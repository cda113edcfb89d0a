/- The result of a flow for a deck: the program and the reference. -/
import Derived.Test.YthbnjmgjhonfbaaGreatTwPf
set_option linter.all false
set_option maxHeartbeats 8000000
namespace Go.Proofs.YthbnjmgjhonfbaaGreat
open Go.Vs
section
variable [Vs.Envs]
attribute [local irreducible] Vs.Fn dP wO stC cZ aW dB dC l03 chB rk cd3 chI stp aZ
def roT (o:Off):AV:=if o.totals.length=0 then .v (.slice none 0 0) else .sl 1 (E cTs o.totals)
def roV (o:Off):List AV:=[.sl 1 (E cD o.trays),roT o]
def gT (o:Off):AV:=if o.totals.length=0 then .v (.slice none 0 0) else .loc (.t 9 1) 0 o.totals.length
def gHT (o:Off):List (Vs.Name×Blk):=if o.totals.length=0 then[] else[(.t 9 1,.arr 1 (E cTs o.totals) false)]
theorem gT_e {o:Off} (h:o.totals.length=0):gT o=.v (.slice none 0 0):=if_pos h
theorem gT_l {o:Off} (h:o.totals.length≠0):gT o=.loc (.t 9 1) 0 o.totals.length:=if_neg h
theorem gH_e {o:Off} (h:o.totals.length=0):gHT o=[]:=if_pos h
theorem gH_l {o:Off} (h:o.totals.length≠0):gHT o=[(.t 9 1,.arr 1 (E cTs o.totals) false)]:=if_neg h
theorem aEx {o:Off} (h:o.totals.length=0):roT o=.v (.slice none 0 0):=if_pos h
theorem aC3 {o:Off} (h:o.totals.length≠0):roT o=.sl 1 (E cTs o.totals):=if_neg h
theorem roE {o:Off} (h:o.totals.length=0) {S:Nat→Prop}{w:World}{v:Value}{ρ:Vs.Name→Option Nat}{κ:Vs.Name→Nat}{hh:Vs.Name→Option Blk} (hv:RV S w ρ κ hh (.ro [.sl 1 (E cD o.trays),.v (.slice none 0 0)]) v):RV S w ρ κ hh (.ro (cO o)) v:=by
 unfold cO;rw[List.eq_nil_of_length_eq_zero h];exact aLJ hv
theorem aHE (o:Off) (ho:yS o) (h:o.totals.length=0):Fz F.nM [.ro [.sl 1 (E cD o.trays),.v (.slice none 0 0)]] (.v (.int .i64 (wO o.trays))):=by
 refine aAz (args':=[.ro (cO o)]) rfl (fun S w j v hj ρ κ hh hv=>?_) (aET o ho)
 match j,hj with
 |0,_=>exact roE h hv
theorem aIf (x:Stp) (o:Off):(stO x o).trays.length=o.trays.length:=by unfold stO;split<;>simp
theorem aGp {x:Stp}{o:Off} (h7:x.kind≠7):(stO x o).totals=o.totals∧(stO x o).trays=o.trays.set x.to.toNat (dkL x (tr o.trays x.a) (tr o.trays x.b)):=by rw[aLn h7];exact⟨rfl,rfl⟩
theorem aEn {x:Stp}{o:Off} (h7:x.kind=7):(stO x o).totals=o.totals++[kU x.f0 x.f1 x.s0 x.s1 (tr o.trays x.a)]∧(stO x o).trays=o.trays:=by rw[aIe h7];exact⟨rfl,rfl⟩
attribute [local go_sem] Int.reduceBEq Int.reduceBNe cC cO cFd aH List.replicate_succ List.replicate_zero List.flatten_cons List.flatten_nil List.cons_append List.nil_append List.set_cons_zero List.set_cons_succ List.length_cons List.length_nil List.length_set List.mem_singleton List.mem_cons List.not_mem_nil or_false false_or Vs.Name.t.injEq List.getD_cons_zero List.getD_cons_succ Vs.Name.b.injEq List.getElem?_cons_zero List.getElem?_cons_succ in
theorem aL2 (o:Off) (w:Nat) (ho:okO w o) (he:o.totals.length=0) (fl:List Stp) (hz:∀x,x∈fl→x.text.size≤1048576) (hl:fl.length≤1048576):Fz F.wI [.ro [.sl 1 (E cD o.trays),.v (.slice none 0 0)],.sl 9 (E cS fl)] (.tup [.agg (roV (run o fl).1),.v (.int .i64 ((run o fl).2:Nat))]):=by
 have OW:Vs.Fn Tryz.prog F.qU [] [.ro [.sl 1 (E cD o.trays),.v (.slice none 0 0)]] (.agg [.loc (.b 0) 0 o.trays.length,.v (.slice none 0 0)]) [some (.arr 1 (E cD o.trays) false)]:=by
  refine aAz (args':=[.ro (cO o)]) rfl (fun S w j v hj ρ κ hh hv=>?_) (aKM o (jR ho) (by rw[ho.2.1];omega) he)
  match j,hj with
  |0,_=>exact roE he hv
 have hI0:=aC2 o fl;generalize hR:run o fl=R;refine fn0 Cd.s_l15Run_k fun X=>?_
 repeat' first|simp -dsimp only[go_sem,cS]|apply Br.mk<;>intro h<;>try simp -dsimp only[h]|refine aA.own (by first|exact OW) rfl ?_|refine aC ?_|fail
 refine aN.atR dM (X:={p:Nat×Off // p.1≤fl.length∧okO w p.2∧aCL o fl p.1 p.2}) (fun p=>[(7,.v (.int .i64 (p.1.1:Nat)))]) (fun p=>(.t 6 0,.var [.loc (.t 9 0) 0 p.1.2.trays.length,gT p.1.2] false)::(.t 9 0,.arr 1 (E cD p.1.2.trays) false)::gHT p.1.2) (fun p=>fl.length-p.1.1) ⟨(0,o),by simp,ho,hI0⟩ ?_ ?_
 ·simp[Vs.LeL,Vs.look,Vs.aB,Vs.aP,Vs.aK,Vs.hset,Vs.aL,gT_e he,gH_e he]
 ·rintro⟨⟨i,o'⟩,hi,ho',hrun⟩;dsimp only at hi ho' hrun⊢;have hso:=jR ho';have hd6:=ho'.2.1;have ht20:=ho'.2.2.2.1;have hk1:(E cD o'.trays).take o'.trays.length=E cD o'.trays:=List.take_of_length_le (by rw[aH];exact Nat.le_refl _);have hk2:(E cTs o'.totals).take o'.totals.length=E cTs o'.totals:=List.take_of_length_le (by rw[aH];exact Nat.le_refl _);by_cases he':o'.totals.length=0
  ·rw[gT_e he',gH_e he'];have WD:=aHE o' hso he'
   try simp -dsimp only[go_sem,cS]
   refine Br.mk (fun hc=>?_) fun hc=>?_
   ·have hlt:i<fl.length:=Dq;have hw:=aG hlt (by omega);have gx:(E cS fl).getD i []=cS fl[i]:=aX hlt;have hzx:=hz _ (List.getElem_mem hlt);have LS:=aDW fl[i] (wO o'.trays:Int) hzx;cases hv:dP fl[i] (wO o'.trays)
    ·rw[hv] at LS;have hstop:=tV hlt hrun (by unfold dsC;rw[hv];simp);rw[hR] at hstop;subst hstop
     repeat' first|simp -dsimp only[go_sem,gx,hk1,hk2,roV,aEx he',cS]|apply Br.mk<;>intro h<;>try simp -dsimp only[h]|refine aA.c (by first|exact WD|exact LS) ?_|refine aC ?_|fail
     all_goals first|omega|exact⟨_,_,rfl,rfl⟩|exact⟨⟨_,_,rfl,rfl⟩,fun h=>h rfl⟩
    ·rw[hv] at LS;by_cases h0:stC fl[i] o'=0
     ·have hd:dsC fl[i] o'=0:=by unfold dsC;rw[hv];exact h0
      have hnext:=aAO hlt hrun hd;have hok:=aDr ho' hd;have htl:=aIf fl[i] o';by_cases h7:fl[i].kind=7
      ·have DO:=aFP fl[i] hzx o' w ho' hv he' h7 h0;obtain⟨q1,q2⟩:=aEn (o:=o') h7;have hm:(stO fl[i] o').totals.length=o'.totals.length+1:=by rw[q1,List.length_append];rfl
       have hne:(stO fl[i] o').totals.length≠0:=by omega
       have hgT:=gT_l hne;have hgH:=gH_l hne;generalize stO fl[i] o'=o2 at *
       repeat' first|simp -dsimp only[go_sem,gx,hw,cS]|apply Br.mk<;>intro h<;>try simp -dsimp only[h]|refine aA.borG (B:=[.t 6 0,.t 9 0]) (by first|exact DO) rfl ?_|refine aA.c (by first|exact WD|exact LS) ?_|refine aC ?_|fail
       all_goals first|omega|(refine⟨⟨(i+1,o2),by simp only;omega,hok,hnext⟩,.inr ⟨.t 26 2,.t 9 1,by decide,rfl,?_⟩,by simp only;omega⟩;simp[Vs.vB,Vs.nmF,Vs.rn,Vs.rnL,Vs.rnB,Vs.LeL,Vs.look,Vs.aB,Vs.aP,Vs.aK,Vs.hset,Vs.aL,hgT,hgH,q1,q2];done)
      ·have DO:=aHJ fl[i] hzx o' w ho' hv he' h7 h0;obtain⟨q1,q2⟩:=aGp (o:=o') h7;have he2:(stO fl[i] o').totals.length=0:=by rw[q1];exact he'
       have hgT:=gT_e he2;have hgH:=gH_e he2;generalize stO fl[i] o'=o2 at *
       repeat' first|simp -dsimp only[go_sem,gx,hw,cS]|apply Br.mk<;>intro h<;>try simp -dsimp only[h]|refine aA.borG (B:=[.t 6 0,.t 9 0]) (by first|exact DO) rfl ?_|refine aA.c (by first|exact WD|exact LS) ?_|refine aC ?_|fail
       all_goals first|omega|(refine⟨⟨(i+1,o2),by simp only;omega,hok,hnext⟩,.inl ?_,by simp only;omega⟩;simp[Vs.LeL,Vs.look,Vs.aB,Vs.aP,Vs.aK,Vs.hset,Vs.aL,hgT,hgH,q1,q2];done)
     ·have DO:=aHI fl[i] hzx o' w ho' hv he' h0;have e0:(stC fl[i] o' != 0)=true:=by simp[h0]
      have hstop:=tV hlt hrun (by unfold dsC;rw[hv];exact h0);rw[hR] at hstop;subst hstop;generalize stC fl[i] o'=c at *
      repeat' first|simp -dsimp only[go_sem,gx,e0,hk1,hk2,roV,aEx he',cS]|apply Br.mk<;>intro h<;>try simp -dsimp only[h]|refine aA.borG (B:=[.t 6 0,.t 9 0]) (by first|exact DO) rfl ?_|refine aA.c (by first|exact WD|exact LS) ?_|refine aC ?_|fail
      all_goals first|omega|exact⟨_,_,rfl,rfl⟩|exact⟨⟨_,_,rfl,rfl⟩,fun h=>h rfl⟩
   ·have hge:i=fl.length:=by
     have:¬i<fl.length:=Dq;omega
    subst hge;have hstop:=aBX hrun;rw[hR] at hstop;subst hstop
    repeat' first|simp -dsimp only[go_sem,hk1,hk2,roV,aEx he',cS]|apply Br.mk<;>intro h<;>try simp -dsimp only[h]|refine And.intro ?_ (fun h=>absurd rfl h)|refine aC ?_|fail
    all_goals first|omega|exact⟨_,_,rfl,rfl⟩|exact⟨⟨_,_,rfl,rfl⟩,fun h=>h rfl⟩
  ·rw[gT_l he',gH_l he'];have WD:=aET o' hso
   try simp -dsimp only[go_sem,cS]
   refine Br.mk (fun hc=>?_) fun hc=>?_
   ·have hlt:i<fl.length:=Dq;have hw:=aG hlt (by omega);have gx:(E cS fl).getD i []=cS fl[i]:=aX hlt;have hzx:=hz _ (List.getElem_mem hlt);have LS:=aDW fl[i] (wO o'.trays:Int) hzx;cases hv:dP fl[i] (wO o'.trays)
    ·rw[hv] at LS;have hstop:=tV hlt hrun (by unfold dsC;rw[hv];simp);rw[hR] at hstop;subst hstop
     repeat' first|simp -dsimp only[go_sem,gx,hk1,hk2,roV,aC3 he',cS]|apply Br.mk<;>intro h<;>try simp -dsimp only[h]|refine aA.c (by first|exact WD|exact LS) ?_|refine aC ?_|fail
     all_goals first|omega|exact⟨_,_,rfl,rfl⟩|exact⟨⟨_,_,rfl,rfl⟩,fun h=>h rfl⟩
    ·rw[hv] at LS;by_cases h0:stC fl[i] o'=0
     ·have hd:dsC fl[i] o'=0:=by unfold dsC;rw[hv];exact h0
      have hnext:=aAO hlt hrun hd;have hok:=aDr ho' hd;have htl:=aIf fl[i] o';by_cases h7:fl[i].kind=7
      ·have DO:=aFO fl[i] hzx o' w ho' hv h7 h0;obtain⟨q1,q2⟩:=aEn (o:=o') h7;have hm:(stO fl[i] o').totals.length=o'.totals.length+1:=by rw[q1,List.length_append];rfl
       have hne:(stO fl[i] o').totals.length≠0:=by omega
       have hgT:=gT_l hne;have hgH:=gH_l hne;generalize stO fl[i] o'=o2 at *
       repeat' first|simp -dsimp only[go_sem,gx,hw,cS]|apply Br.mk<;>intro h<;>try simp -dsimp only[h]|refine aA.borG (B:=[.t 6 0,.t 9 0,.t 9 1]) (by first|exact DO) rfl ?_|refine aA.c (by first|exact WD|exact LS) ?_|refine aC ?_|fail
       all_goals first|omega|(refine⟨⟨(i+1,o2),by simp only;omega,hok,hnext⟩,.inr ⟨.t 26 3,.t 9 1,by decide,rfl,?_⟩,by simp only;omega⟩;simp[Vs.vB,Vs.nmF,Vs.rn,Vs.rnL,Vs.rnB,Vs.LeL,Vs.look,Vs.aB,Vs.aP,Vs.aK,Vs.hset,Vs.aL,hgT,hgH,q1,q2];done)
      ·have DO:=aHH fl[i] hzx o' w ho' hv h7 h0;obtain⟨q1,q2⟩:=aGp (o:=o') h7;have he2:(stO fl[i] o').totals.length≠0:=by rw[q1];exact he'
       have hgT:=gT_l he2;have hgH:=gH_l he2;generalize stO fl[i] o'=o2 at *
       repeat' first|simp -dsimp only[go_sem,gx,hw,cS]|apply Br.mk<;>intro h<;>try simp -dsimp only[h]|refine aA.borG (B:=[.t 6 0,.t 9 0,.t 9 1]) (by first|exact DO) rfl ?_|refine aA.c (by first|exact WD|exact LS) ?_|refine aC ?_|fail
       all_goals first|omega|(refine⟨⟨(i+1,o2),by simp only;omega,hok,hnext⟩,.inl ?_,by simp only;omega⟩;simp[Vs.LeL,Vs.look,Vs.aB,Vs.aP,Vs.aK,Vs.hset,Vs.aL,hgT,hgH,q1,q2];done)
     ·have DO:=aHG fl[i] hzx o' w ho' hv h0;have e0:(stC fl[i] o' != 0)=true:=by simp[h0]
      have hstop:=tV hlt hrun (by unfold dsC;rw[hv];exact h0);rw[hR] at hstop;subst hstop;generalize stC fl[i] o'=c at *
      repeat' first|simp -dsimp only[go_sem,gx,e0,hk1,hk2,roV,aC3 he',cS]|apply Br.mk<;>intro h<;>try simp -dsimp only[h]|refine aA.borG (B:=[.t 6 0,.t 9 0,.t 9 1]) (by first|exact DO) rfl ?_|refine aA.c (by first|exact WD|exact LS) ?_|refine aC ?_|fail
      all_goals first|omega|exact⟨_,_,rfl,rfl⟩|exact⟨⟨_,_,rfl,rfl⟩,fun h=>h rfl⟩
   ·have hge:i=fl.length:=by
     have:¬i<fl.length:=Dq;omega
    subst hge;have hstop:=aBX hrun;rw[hR] at hstop;subst hstop
    repeat' first|simp -dsimp only[go_sem,hk1,hk2,roV,aC3 he',cS]|apply Br.mk<;>intro h<;>try simp -dsimp only[h]|refine And.intro ?_ (fun h=>absurd rfl h)|refine aC ?_|fail
    all_goals first|omega|exact⟨_,_,rfl,rfl⟩|exact⟨⟨_,_,rfl,rfl⟩,fun h=>h rfl⟩
end
section
variable [Vs.Envs]
attribute [local irreducible] Vs.Fn dP wO stC run cZ aW dB dC l03 chB rk cd3 chI stp aZ
attribute [local go_sem] cO
def rsB (fl:List Stp) (l:List (List Int)):Bool:=decide ((run (O0 l) fl).2=fl.length)&&decide ((run (O0 l) fl).1.totals.length=1)
def rsL (fl:List Stp) (l:List (List Int)):List Tot:=(run (O0 l) fl).1.totals.getD 0 []
def rsV (fl:List Stp) (l:List (List Int)):AV:=if rsB fl l then .sl 2 (E cT (rsL fl l)) else .v (.slice none 0 0)
attribute [local go_sem] Int.reduceBEq Int.reduceBNe cFd aH List.replicate_succ List.replicate_zero List.flatten_cons List.flatten_nil List.cons_append List.nil_append List.set_cons_zero List.set_cons_succ List.length_cons List.length_nil List.length_set List.mem_singleton List.mem_cons List.not_mem_nil or_false false_or Vs.Name.t.injEq List.getD_cons_zero List.getD_cons_succ Vs.Name.b.injEq List.getElem?_cons_zero List.getElem?_cons_succ in
theorem aCN (fl:List Stp) (hz:∀x,x∈fl→x.text.size≤1048576) (hl:fl.length≤1048576) (l:List (List Int)) (hk:bA l) (hd:aS l=true):Fz F.rM [.sl 9 (E cS fl),.sl 1 (E cC l)] (.tup [rsV fl l,.v (.bool (rsB fl l))]):=by
 have NW:=aCi l hk hd;have SZ:=aIr fl
 have RF:Fz F.qL [.agg [.sl 1 (aBb l),.sl 1 []],.sl 9 (E cS fl)] (.tup [.agg (cO (run (O0 l) fl).1),.v (.int .i64 ((run (O0 l) fl).2:Nat))]):=by
  refine aAz (args':=[.agg (cO (O0 l)),.sl 9 (E cS fl)]) rfl (fun S w j v hj ρ κ hh hv=>?_) (aKh (O0 l) _ (aFt hd) fl hz hl)
  match j,hj with
  |0,_=>exact aKB hv
  |1,_=>exact hv
 generalize hrn:aBb l=RN at *
 have hok:=aFD fl (O0 l) (aFt hd);unfold rsV;unfold rsB rsL;generalize run (O0 l) fl=R at *
 obtain⟨o',n⟩:=R;obtain⟨ho',hn⟩:=hok;dsimp only at *
 have ht20:=ho'.2.2.2.1;by_cases hlt:n<fl.length
 ·have e1:decide ((n:Int)<(fl.length:Int))=true:=decide_eq_true (by omega);have e2:(decide (n=fl.length)&&decide (o'.totals.length=1))=false:=by rw[decide_eq_false (by omega)];rfl
  rw[e2];refine fn0 Cd.i_resultOf_k fun X=>?_
  repeat' first|simp -dsimp only[go_sem,e1,cC,cS]|apply Br.mk<;>intro h<;>try simp -dsimp only[h]|refine aA.c (by first|exact NW|exact RF|exact SZ) ?_|refine aC ?_|fail
  all_goals first|omega|exact⟨_,_,rfl,rfl⟩|(refine aO ?_;simp;done)
 have e1:decide ((n:Int)<(fl.length:Int))=false:=decide_eq_false (by omega);by_cases h1:o'.totals.length=1
 ·have e2:(decide (n=fl.length)&&decide (o'.totals.length=1))=true:=by rw[decide_eq_true (by omega),decide_eq_true h1];rfl
  rw[e2,if_pos rfl];have e3:((o'.totals.length:Int) != 1)=false:=by simp[h1]
  have h0:0<o'.totals.length:=by omega
  have g0:(E cTs o'.totals).getD 0 []=[.sl 2 (E cT (o'.totals.getD 0 []))]:=by rw[aCB h0];simp[List.getD,h0]
  refine fn0 Cd.i_resultOf_k fun X=>?_
  repeat' first|simp -dsimp only[go_sem,e1,e3,g0,cC,cS]|apply Br.mk<;>intro h<;>try simp -dsimp only[h]|refine aA.c (by first|exact NW|exact RF|exact SZ) ?_|refine aC ?_|fail
  all_goals first|omega|exact⟨_,_,rfl,rfl⟩|(refine aO ?_;simp;done)
 ·have e2:(decide (n=fl.length)&&decide (o'.totals.length=1))=false:=by rw[decide_eq_false h1,Bool.and_false]
  rw[e2];have e3:((o'.totals.length:Int) != 1)=true:=by simp;omega
  have e4:(((0:Nat):Int) != 1)=true:=by decide
  refine fn0 Cd.i_resultOf_k fun X=>?_
  repeat' first|simp -dsimp only[go_sem,e1,e3,e4,cC,cS]|apply Br.mk<;>intro h<;>try simp -dsimp only[h]|refine aA.c (by first|exact NW|exact RF|exact SZ) ?_|refine aC ?_|fail
  all_goals first|omega|exact⟨_,_,rfl,rfl⟩|(refine aO ?_;simp;done)
attribute [local go_sem] Int.reduceBEq Int.reduceBNe cFd aH List.replicate_succ List.replicate_zero List.flatten_cons List.flatten_nil List.cons_append List.nil_append List.set_cons_zero List.set_cons_succ List.length_cons List.length_nil List.length_set List.mem_singleton List.mem_cons List.not_mem_nil or_false false_or Vs.Name.t.injEq List.getD_cons_zero List.getD_cons_succ Vs.Name.b.injEq List.getElem?_cons_zero List.getElem?_cons_succ in
theorem aHC (fl:List Stp) (hz:∀x,x∈fl→x.text.size≤1048576) (hl:fl.length≤1048576) (l:List (List Int)) (hk:bA l) (hd:aS l=true):Fz F.oM [.sl 9 (E cS fl),.sl 1 (E cC l)] (.tup [rsV fl l,.v (.bool (rsB fl l))]):=by
 have NW:=aL3 l hk;have RF:=aL2 (O0 l) _ (aFt hd) rfl fl hz hl;rw[show(O0 l).trays=T0 l from rfl] at RF;generalize hrn:T0 l=TL at *
 have hok:=aFD fl (O0 l) (aFt hd);unfold rsV;unfold rsB rsL;generalize run (O0 l) fl=R at *
 obtain⟨o',n⟩:=R;obtain⟨ho',hn⟩:=hok;dsimp only at *
 have ht20:=ho'.2.2.2.1;by_cases hlt:n<fl.length
 ·have e1:decide ((n:Int)<(fl.length:Int))=true:=decide_eq_true (by omega);have e2:(decide (n=fl.length)&&decide (o'.totals.length=1))=false:=by rw[decide_eq_false (by omega)];rfl
  rw[e2];by_cases hT:o'.totals.length=0
  ·have hroT:=aEx hT;rw[show roV o'=[.sl 1 (E cD o'.trays),.v (.slice none 0 0)] by unfold roV;rw[hroT]] at RF;refine fn0 Cd.s_l17Result_k fun X=>?_
   repeat' first|simp -dsimp only[go_sem,e1,roV,cC,cS]|apply Br.mk<;>intro h<;>try simp -dsimp only[h]|refine aA.c (by first|exact NW|exact RF) ?_|refine aC ?_|fail
   all_goals first|omega|exact⟨_,_,rfl,rfl⟩|(refine aO ?_;simp;done)
  ·have hroT:=aC3 hT;rw[show roV o'=[.sl 1 (E cD o'.trays),.sl 1 (E cTs o'.totals)] by unfold roV;rw[hroT]] at RF;refine fn0 Cd.s_l17Result_k fun X=>?_
   repeat' first|simp -dsimp only[go_sem,e1,roV,cC,cS]|apply Br.mk<;>intro h<;>try simp -dsimp only[h]|refine aA.c (by first|exact NW|exact RF) ?_|refine aC ?_|fail
   all_goals first|omega|exact⟨_,_,rfl,rfl⟩|(refine aO ?_;simp;done)
 have e1:decide ((n:Int)<(fl.length:Int))=false:=decide_eq_false (by omega);by_cases h1:o'.totals.length=1
 ·have e2:(decide (n=fl.length)&&decide (o'.totals.length=1))=true:=by rw[decide_eq_true (by omega),decide_eq_true h1];rfl
  rw[e2,if_pos rfl];have e3:((o'.totals.length:Int) != 1)=false:=by simp[h1]
  have h0:0<o'.totals.length:=by omega
  have g0:(E cTs o'.totals).getD 0 []=[.sl 2 (E cT (o'.totals.getD 0 []))]:=by rw[aCB h0];simp[List.getD,h0]
  have hroT:=aC3 (by omega:o'.totals.length≠0);rw[show roV o'=[.sl 1 (E cD o'.trays),.sl 1 (E cTs o'.totals)] by unfold roV;rw[hroT]] at RF;refine fn0 Cd.s_l17Result_k fun X=>?_
  repeat' first|simp -dsimp only[go_sem,e1,e3,g0,cC,cS]|apply Br.mk<;>intro h<;>try simp -dsimp only[h]|refine aA.c (by first|exact NW|exact RF) ?_|refine aC ?_|fail
  all_goals first|omega|exact⟨_,_,rfl,rfl⟩|(refine aO ?_;simp;done)
 ·have e2:(decide (n=fl.length)&&decide (o'.totals.length=1))=false:=by rw[decide_eq_false h1,Bool.and_false]
  rw[e2];have e3:((o'.totals.length:Int) != 1)=true:=by simp;omega
  have e4:(((0:Nat):Int) != 1)=true:=by decide
  by_cases hT:o'.totals.length=0
  ·have hroT:=aEx hT;rw[show roV o'=[.sl 1 (E cD o'.trays),.v (.slice none 0 0)] by unfold roV;rw[hroT]] at RF;refine fn0 Cd.s_l17Result_k fun X=>?_
   repeat' first|simp -dsimp only[go_sem,e1,e3,e4,cC,cS]|apply Br.mk<;>intro h<;>try simp -dsimp only[h]|refine aA.c (by first|exact NW|exact RF) ?_|refine aC ?_|fail
   all_goals first|omega|exact⟨_,_,rfl,rfl⟩|(refine aO ?_;simp;done)
  ·have hroT:=aC3 hT;rw[show roV o'=[.sl 1 (E cD o'.trays),.sl 1 (E cTs o'.totals)] by unfold roV;rw[hroT]] at RF;refine fn0 Cd.s_l17Result_k fun X=>?_
   repeat' first|simp -dsimp only[go_sem,e1,e3,e4,cC,cS]|apply Br.mk<;>intro h<;>try simp -dsimp only[h]|refine aA.c (by first|exact NW|exact RF) ?_|refine aC ?_|fail
   all_goals first|omega|exact⟨_,_,rfl,rfl⟩|(refine aO ?_;simp;done)
end
end Go.Proofs.YthbnjmgjhonfbaaGreat
