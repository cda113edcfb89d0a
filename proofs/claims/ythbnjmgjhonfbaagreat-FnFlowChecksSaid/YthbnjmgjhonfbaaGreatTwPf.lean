/- Drawn decks and flows are valid; flows and steps from outside; an office that may be changed. -/
import Derived.Test.YthbnjmgjhonfbaaGreatTwVr
import Derived.Test.YthbnjmgjhonfbaaGreatTwPd
import Derived.Test.YthbnjmgjhonfbaaGreatTwD
import Derived.Test.YthbnjmgjhonfbaaGreatTuF
import Derived.Test.YthbnjmgjhonfbaaGreatTwK
set_option linter.all false
set_option maxHeartbeats 8000000
namespace Go.Proofs.YthbnjmgjhonfbaaGreat
open Go.Vs
section
variable [Vs.Envs]
attribute [local irreducible] Vs.Fn cZ aW dB dC l03 chB rk cd3 chI stp aZ
theorem aKt {k:Nat}{S:Nat→Prop}{w:World}{rows rows':List (List AV)}{v:Value} (hl:rows.length=rows'.length) (hk:∀i,i<rows'.length→(rows'.getD i []).length=k)
  (hc:∀i j,i<rows.length→j<k→∀u,RC S w ((rows.getD i []).getD j .junk) u→RC S w ((rows'.getD i []).getD j .junk) u) (h:RC S w (.sl k rows) v):RC S w (.sl k rows') v:=by
 cases h with
 | sl _ _ base cap x off xs hb hc' ho hr hk' hcap =>
  rw[hl];exact RC.sl k rows' base cap x off xs (fun hne=>hb (fun e=>hne (List.eq_nil_of_length_eq_zero (by rw[←hl,e];rfl)))) (fun i j hi hj=>hc' i j (by omega) hj) (fun i j hi hj=>ho i j (by omega) hj) (fun i j hi hj=>hc i j (by omega) hj _ (hr i j (by omega) hj)) hk (by omega)
def aBb (l:List (List Int)):List (List AV):=[[.sl 1 (E cC l)],[.v (.slice none 0 0)],[.v (.slice none 0 0)],[.v (.slice none 0 0)],[.v (.slice none 0 0)],[.v (.slice none 0 0)]]
def T0 (l:List (List Int)):List (List (List Int)):=l::List.replicate 5 []
def O0 (l:List (List Int)):Off:=⟨T0 l,[]⟩
theorem aIx {S:Nat→Prop}{w:World}{l:List (List Int)}{v:Value} (h:RC S w (.sl 1 (aBb l)) v):RC S w (.sl 1 (E cD (T0 l))) v:=by
 refine aKt (rows:=aBb l) rfl (fun i hi=>?_) (fun i j hi hj u hu=>?_) h
 ·match i,hi with
  |0,_=>rfl
  |1,_=>rfl
  |2,_=>rfl
  |3,_=>rfl
  |4,_=>rfl
  |5,_=>rfl
  |n+6,hi=>exact absurd hi (by simp[E,T0])
 ·obtain rfl:j=0:=by omega
  match i,hi with
  |0,_=>exact hu
  |1,_=>exact vC hu
  |2,_=>exact vC hu
  |3,_=>exact vC hu
  |4,_=>exact vC hu
  |5,_=>exact vC hu
  |n+6,hi=>exact absurd hi (by simp[aBb])
theorem aKB {S:Nat→Prop}{w:World}{l:List (List Int)}{v:Value}{ρ:Vs.Name→Option Nat}{κ:Vs.Name→Nat}{hh:Vs.Name→Option Blk} (h:RV S w ρ κ hh (.agg [.sl 1 (aBb l),.sl 1 []]) v):RV S w ρ κ hh (.agg (cO (O0 l))) v:=by
 obtain⟨vs,rfl,h1,h2⟩:=mX h;refine .agg _ _ h1 fun j hj=>?_
 match j,hj with
 |0,_=>exact .clo (aIx (sW (h2 0 (by simp))))
 |1,_=>exact h2 1 (by simp)
theorem aFt {l:List (List Int)} (hd:aS l=true):okO (aT l).toNat (O0 l):=by
 have h1:=aAL hd;simp only[inB,Bool.and_eq_true,decide_eq_true_eq] at h1;refine⟨⟨by omega,by omega⟩,rfl,fun d hm=>?_,by simp[O0],fun t ht=>absurd ht (by simp[O0])⟩;rcases List.mem_cons.1 hm with rfl|hm
 ·refine⟨hd,fun c hc=>?_⟩;simp only[aS,Bool.and_eq_true,List.all_eq_true,decide_eq_true_eq] at hd;have h0:d.length≠0:=by intro e;rw[List.eq_nil_of_length_eq_zero e] at hc;cases hc
  rw[(hd.1 c hc).2,aT,if_neg h0,Int.toNat_natCast]
 ·rw[(List.mem_replicate.1 hm).2];exact⟨by decide,fun c hc=>absurd hc (by simp)⟩
theorem aCi (l:List (List Int)) (hk:bA l) (hd:aS l=true):Fz F.pJ [.sl 1 (E cC l)] (.tup [.agg [.sl 1 (aBb l),.sl 1 []],.v (.int .i64 0)]):=by
 have VD:=lZ l hk.2 hk.1;rw[hd] at VD;have ND:=aB6 l hk;refine fn0 Cd.i_NewOffice_k fun X=>?_
 repeat' first|simp -dsimp only[go_sem,aBb,Int.reduceBEq,Int.reduceBNe,cC,cO,cS,cFd,aH,List.replicate_succ,List.replicate_zero,List.flatten_cons,List.flatten_nil,List.cons_append,List.nil_append,List.set_cons_zero,List.set_cons_succ,List.length_cons,List.length_nil,List.length_set,List.mem_singleton,List.mem_cons,List.not_mem_nil,or_false,false_or,Vs.Name.t.injEq,List.getD_cons_zero,List.getD_cons_succ,Vs.Name.b.injEq]|apply Br.mk<;>intro h<;>try simp -dsimp only[h]|refine aA.c (by first|exact VD|exact ND) ?_|refine aC ?_|fail
 all_goals first|omega|exact⟨_,_,rfl,rfl⟩
def TK (l:List (List Int)) (k:Nat):List (List (List Int)):=l::List.replicate k []
theorem aJ0 (l:List (List Int)) (k:Nat):(TK l k).length=k+1:=by unfold TK;rw[List.length_cons,List.length_replicate]
theorem E_snN (l:List (List Int)) (k:Nat):E cD (TK l k)++[[.sl 1 []]]=E cD (TK l (k+1)):=by
 unfold TK;rw[List.replicate_succ',←List.cons_append,aY];rfl
attribute [local go_sem] Int.reduceBEq Int.reduceBNe cO cS cFd aH List.replicate_succ List.replicate_zero List.flatten_cons List.flatten_nil List.cons_append List.nil_append List.set_cons_zero List.set_cons_succ List.length_cons List.length_nil List.length_set List.mem_singleton List.mem_cons List.not_mem_nil or_false false_or Vs.Name.t.injEq List.getD_cons_zero List.getD_cons_succ Vs.Name.b.injEq in
theorem aL3 (l:List (List Int)) (hk:bA l):Fz F.wJ [.sl 1 (E cC l)] (.agg [.sl 1 (E cD (T0 l)),.v (.slice none 0 0)]):=by
 have CP:=aBC l hk;refine fn0 Cd.s_l15New_k fun X=>?_
 repeat' first|simp -dsimp only[go_sem,cC]|apply Br.mk<;>intro h<;>try simp -dsimp only[h]|refine aA.c (by first|exact CP) ?_|refine aC ?_|fail
 have e0:([[.sl 1 (E cC l)]]:List (List AV))=E cD (TK l 0):=rfl;refine aN.atR dM (X:={k:Nat // k≤5}) (fun k=>[(4,.v (.int .i64 (k.1+1:Nat)))]) (fun k=>[(.t 3 0,.var [.loc (.t 7 0) 0 (k.1+1),.v (.slice none 0 0)] false),(.t 7 0,.arr 1 (E cD (TK l k.1)) false)]) (fun k=>5-k.1) ⟨0,by omega⟩ ?_ ?_
 ·simp[Vs.LeL,Vs.look,Vs.aB,Vs.aP,Vs.aK,Vs.hset,Vs.aL,Vs.E,cD,TK]
 ·rintro⟨k,hi⟩
  try dsimp only at hi
  try simp -dsimp only[go_sem,cC]
  refine Br.mk (fun hc=>?_) fun hc=>?_
  ·have hlt:k<5:=by first|(simp at hc;omega)|omega
   have hw:IntKind.i64.wrap ((k+1:Nat)+1:Int)=((k+1+1:Nat):Int):=by rw[aR (by omega) (by omega)];omega
   have hrow:=E_snN l k;have hal:(E cD (TK l k)).length=k+1:=by rw[aH,aJ0]
   repeat' first|simp -dsimp only[go_sem,hw,hrow,hal,cC]|apply Br.mk<;>intro h<;>try simp -dsimp only[h]|refine aC ?_|refine⟨[],rfl,rfl,?_⟩|fail
   all_goals first|omega|(refine⟨⟨k+1,by omega⟩,.inr ⟨.t 17 0,.t 7 0,by decide,rfl,?_⟩,by simp only;omega⟩;simp[Vs.vB,Vs.nmF,Vs.rn,Vs.rnL,Vs.rnB,Vs.LeL,Vs.look,Vs.aB,Vs.aP,Vs.aK,Vs.hset,Vs.aL,hrow];done)
  ·have hge:k=5:=by
    have:¬k<5:=by first|(simp at hc;omega)|omega
    omega
   subst hge;have hal:(E cD (TK l 5)).length=6:=by rw[aH,aJ0]
   have hk6:(E cD (TK l 5)).take 6=E cD (TK l 5):=List.take_of_length_le (by omega);rw[show T0 l=TK l 5 from rfl]
   repeat' first|simp -dsimp only[go_sem,hal,hk6,cC]|apply Br.mk<;>intro h<;>try simp -dsimp only[h]|refine And.intro ?_ (fun h=>absurd rfl h)|refine aC ?_|fail
   all_goals first|omega|exact⟨_,_,rfl,rfl⟩|exact⟨⟨_,_,rfl,rfl⟩,fun h=>h rfl⟩
end
section
variable [Vs.Envs]
attribute [local irreducible] Vs.Fn cZ aW dB dC l03 chB rk cd3 chI stp aZ
attribute [local go_sem] Int.reduceBEq Int.reduceBNe cC cTs cD aH List.replicate_succ List.replicate_zero List.flatten_cons List.flatten_nil List.cons_append List.nil_append List.set_cons_zero List.set_cons_succ List.length_cons List.length_nil List.length_set List.mem_singleton List.mem_cons List.not_mem_nil or_false false_or Vs.Name.t.injEq in
theorem aFL (o:Off) (ho:yS o):Fz F.iC [.agg (cO o)] (.agg (cO o)):=by
 have hn:=ho.1.1;have hm:=ho.2.1;refine fn1 Cd.i_newOffice_k [] [] fun X=>?_;unfold Cd.iC
 repeat' first|simp -dsimp only[go_sem,cO]|apply Br.mk<;>intro h<;>try simp -dsimp only[h]|refine aC ?_|fail
 refine aN.atR dM (X:={i:Nat // i≤o.trays.length}) (fun i=>[(14,.v (.int .i64 (i.1:Nat)))]) (fun i=>[(.t 3 0,.var [.loc (.t 8 0) 0 i.1,.loc (.t 9 0) 0 0] false),(.t 8 0,.arr 1 (E cD (o.trays.take i.1)) false)]) (fun i=>o.trays.length-i.1) ⟨0,by omega⟩ ?_ ?_
 ·simp[Vs.LeL,Vs.look,Vs.aB,Vs.aP,Vs.aK,Vs.hset,Vs.aL,Vs.E]
 ·rintro⟨i,hi⟩
  try dsimp only at hi
  try simp -dsimp only[go_sem,cO]
  refine Br.mk (fun hc=>?_) fun hc=>?_
  ·have hlt:i<o.trays.length:=Dq;have hw:=aG hlt (by omega);have hat:=aJN hlt;have hrow:=aEj hlt;have hal:(E cD (o.trays.take i)).length=i:=by rw[aH];simp;omega
   have ND:=aB6 o.trays[i] (ho.1.2 _ (List.getElem_mem hlt))
   repeat' first|simp -dsimp only[go_sem,hw,hrow,hal,hat,cO]|apply Br.mk<;>intro h<;>try simp -dsimp only[h]|refine aA.c (by first|exact ND) ?_|refine aC ?_|fail
   all_goals first|omega|(refine⟨⟨i+1,by omega⟩,.inr ⟨.t 23 0,.t 8 0,by decide,rfl,?_⟩,by simp only;omega⟩;simp[Vs.vB,Vs.nmF,Vs.rn,Vs.rnL,Vs.rnB,Vs.LeL,Vs.look,Vs.aB,Vs.aP,Vs.aK,Vs.hset,Vs.aL,hrow];done)
  ·have hge:i=o.trays.length:=by
    have:¬i<o.trays.length:=Dq;omega
   subst hge
   try simp -dsimp only[go_sem,cO]
   refine⟨?_,fun h=>h rfl⟩
   repeat' first|simp -dsimp only[go_sem,cO]|apply Br.mk<;>intro h<;>try simp -dsimp only[h]|refine aC ?_|fail
   refine aN.atR dM (X:={i:Nat // i≤o.totals.length}) (fun i=>[(29,.v (.int .i64 (i.1:Nat)))]) (fun i=>[(.t 3 0,.var [.loc (.t 8 0) 0 o.trays.length,.loc (.t 9 0) 0 i.1] false),(.t 9 0,.arr 1 (E cTs (o.totals.take i.1)) false)]) (fun i=>o.totals.length-i.1) ⟨0,by omega⟩ ?_ ?_
   ·simp[Vs.LeL,Vs.look,Vs.aB,Vs.aP,Vs.aK,Vs.hset,Vs.aL,Vs.E]
   ·rintro⟨i,hi⟩
    try dsimp only at hi
    try simp -dsimp only[go_sem,cO]
    refine Br.mk (fun hc=>?_) fun hc=>?_
    ·have hlt:i<o.totals.length:=Dq;have hw:=aG hlt (by omega);have hat:=aCB hlt;have hrow:=aEi hlt;have hal:(E cTs (o.totals.take i)).length=i:=by rw[aH];simp;omega
     have hs:=(ho.2.2 _ (List.getElem_mem hlt)).1
     repeat' first|simp -dsimp only[go_sem,hw,hrow,hal,hat,cO]|apply Br.mk<;>intro h<;>try simp -dsimp only[h]|refine aC ?_|fail
     all_goals first|omega|(refine⟨⟨i+1,by omega⟩,.inr ⟨.t 39 0,.t 9 0,by decide,rfl,?_⟩,by simp only;omega⟩;simp[Vs.vB,Vs.nmF,Vs.rn,Vs.rnL,Vs.rnB,Vs.LeL,Vs.look,Vs.aB,Vs.aP,Vs.aK,Vs.hset,Vs.aL,hrow];done)
    ·have hge:i=o.totals.length:=by
      have:¬i<o.totals.length:=Dq;omega
     subst hge
     try simp -dsimp only[go_sem,cO]
     refine⟨?_,fun h=>h rfl⟩;have ht1:(E cD (o.trays.take o.trays.length))=E cD o.trays:=by rw[List.take_length]
     have hq1:(E cD o.trays).take o.trays.length=E cD o.trays:=List.take_of_length_le (by rw[aH];exact Nat.le_refl _);have hq2:(E cTs o.totals).take o.totals.length=E cTs o.totals:=List.take_of_length_le (by rw[aH];exact Nat.le_refl _);have ht2:(E cTs (o.totals.take o.totals.length))=E cTs o.totals:=by rw[List.take_length]
     repeat' first|simp -dsimp only[go_sem,ht1,ht2,hq1,hq2,cO]|apply Br.mk<;>intro h<;>try simp -dsimp only[h]|refine aC ?_|fail
     all_goals first|omega|exact⟨_,_,rfl,rfl⟩
theorem aIr (l:List Stp):Fz F.iT [.sl 9 (E cS l)] (.v (.int .i64 l.length)):=by
 refine fn0 Cd.i_size_i_Step__k fun X=>?_
 repeat' first|simp -dsimp only[go_sem]|apply Br.mk<;>intro h<;>try simp -dsimp only[h]|refine aC ?_|fail
 all_goals(simp_all)
attribute [local go_sem] Int.reduceBEq Int.reduceBNe cC cFd aH List.replicate_succ List.replicate_zero List.flatten_cons List.flatten_nil List.cons_append List.nil_append List.set_cons_zero List.set_cons_succ List.length_cons List.length_nil List.length_set List.mem_singleton List.mem_cons List.not_mem_nil or_false false_or Vs.Name.t.injEq List.getD_cons_zero List.getD_cons_succ Vs.Name.b.injEq in
theorem aKh (o:Off) (w:Nat) (ho:okO w o) (fl:List Stp) (hz:∀x,x∈fl→x.text.size≤1048576) (hl:fl.length≤1048576):Fz F.qL [.agg (cO o),.sl 9 (E cS fl)] (.tup [.agg (cO (run o fl).1),.v (.int .i64 ((run o fl).2:Nat))]):=by
 have NO:=aFL o (jR ho);have SZ:=aIr fl;have hI0:=aC2 o fl;generalize hR:run o fl=R;refine fn0 Cd.i_runFlow_k fun X=>?_
 repeat' first|simp -dsimp only[go_sem,cO,cS]|apply Br.mk<;>intro h<;>try simp -dsimp only[h]|refine aA.c (by first|exact NO) ?_|refine aC ?_|fail
 refine aN.at dM (X:={p:Nat×Off // p.1≤fl.length∧okO w p.2∧aCL o fl p.1 p.2}) (fun p=>[(15,.v (.int .i64 (p.1.1:Nat)))]) (fun p=>[(.t 6 0,.var (cO p.1.2) false)]) (fun p=>fl.length-p.1.1) ⟨(0,o),by simp,ho,hI0⟩ ?_ ?_
 ·simp[Vs.LeL,Vs.look,Vs.aB,Vs.aP,Vs.aK,Vs.hset,Vs.aL,cO]
 ·rintro⟨⟨i,o'⟩,hi,ho',hrun⟩;dsimp only at hi ho' hrun;simp -dsimp only[go_sem,cO,cS];refine Br.mk (fun hc=>?_) fun hc=>?_
  ·have hlt:i<fl.length:=Dq;have hw:=aG hlt (by omega);have gx:(E cS fl).getD i []=cS fl[i]:=aX hlt;have DS:=aMe fl[i] (hz _ (List.getElem_mem hlt)) o' w ho';by_cases hd:dsC fl[i] o'=0
   ·rw[show dsV fl[i] o'=.agg (cO (stO fl[i] o')) by unfold dsV;rw[if_pos hd],hd] at DS;have hnext:=aAO hlt hrun hd;have hok:=aDr ho' hd;generalize stO fl[i] o'=o2 at *
    repeat' first|simp -dsimp only[go_sem,hw,gx,cO,cS]|apply Br.mk<;>intro h<;>try simp -dsimp only[h]|refine aA.c (by first|exact DS) ?_|refine aC ?_|fail
    all_goals first|omega|(refine⟨⟨(i+1,o2),by simp only;omega,hok,hnext⟩,?_,by simp only;omega⟩;simp[Vs.LeL,Vs.look,Vs.aB,Vs.aP,Vs.aK,Vs.hset,Vs.aL,cO];done)
   ·rw[show dsV fl[i] o'=noO by unfold dsV;rw[if_neg hd]] at DS;have e0:(dsC fl[i] o' != 0)=true:=by simp[hd]
    have hstop:=tV hlt hrun hd;rw[hR] at hstop;subst hstop;generalize dsC fl[i] o'=c at *
    repeat' first|simp -dsimp only[go_sem,hw,gx,e0,noO,cO,cS]|apply Br.mk<;>intro h<;>try simp -dsimp only[h]|refine aA.c (by first|exact DS) ?_|refine aC ?_|fail
    all_goals first|omega|exact⟨_,_,rfl,rfl⟩
  ·have hge:i=fl.length:=by
    have:¬i<fl.length:=Dq;omega
   subst hge;have hstop:=aBX hrun;rw[hR] at hstop;subst hstop
   repeat' first|simp -dsimp only[go_sem,cO,cS]|apply Br.mk<;>intro h<;>try simp -dsimp only[h]|refine aA.c (by first|exact SZ) ?_|refine And.intro ?_ (fun h=>absurd rfl h)|refine aC ?_|fail
   all_goals first|omega|exact⟨_,_,rfl,rfl⟩|exact⟨⟨_,_,rfl,rfl⟩,fun h=>h rfl⟩
end
section
variable [Vs.Envs]
attribute [local irreducible] Vs.Fn nxV nxS pkV pkS ptN crd dP dtF uX wO aS dsC
theorem aI7 (l:List Int):Vs.Fn Tryz.prog F.qJ [] [.sl 1 (E cU l)] (.ptr (.b 0) 0 0) [some (.var [.sl 1 (E cU l),.v (.int .i64 0),.v (.int .u64 0)] false)]:=by
 refine fn1 Cd.s_l00From_k [.t 5 0] [sB l ⟨0,0⟩] fun X=>?_;unfold Cd.qJ
 repeat' first|simp -dsimp only[go_sem,Int.reduceBEq,Int.reduceBNe,cC,aH,List.replicate_succ,List.replicate_zero,List.flatten_cons,List.flatten_nil,List.cons_append,List.nil_append,List.set_cons_zero,List.set_cons_succ,List.length_cons,List.length_nil,List.length_set,List.mem_singleton,List.mem_cons,List.not_mem_nil,or_false,false_or,Vs.Name.t.injEq,List.getD_cons_zero,List.getD_cons_succ,bB,bC,bO,sB,List.append_nil,List.flatMap_cons,List.flatMap_nil]|apply Br.mk<;>intro h<;>try simp -dsimp only[h]|refine aC ?_|fail
 all_goals exact⟨_,_,rfl,rfl⟩
theorem aMr (l m:List Int):Fz F.o5 [.sl 1 (E cU l),.sl 1 (E cU m)] (.v (.bool (decide ((l.length:Int)>3000)||decide ((m.length:Int)>3000)))):=by
 refine fn0 Cd.l_a2Long_k fun X=>?_
 repeat' first|simp -dsimp only[go_sem,aH]|apply Br.mk<;>intro h<;>try simp -dsimp only[h]|refine aC ?_|fail
 all_goals(first|(simp_all [aH];done)|(refine aO ?_;simp_all [aH];done)|(simp_all [aH];omega))
end
section
variable [Vs.Envs]
attribute [local irreducible] Vs.Fn nxV nxS pkV pkS ptN crd dP dtF uX
open Go.Vs.Q in
def CdV.l15Spoil:aD:=s [m 4 0,o 5 (.call (.func F.aI) [4,(k 8)] [0])] [0,1,5]<|.block 0 (s [en 7 5 0,m 6 7] [0,1,5,6]<|.cond 6 (.region [m 8 1,m 9 0,o 10 (.bslice 1 4 [.v (.int .i64 (0))] [(0,(k 0)),(1,(k 7)),(2,(k 8)),(3,(k (-1)))]),o 11 (.call (.func F.bN) [9,10] [0]),nc 12 8,fa 13 0
 12,⟨none,.store 1 13 11,none⟩] [] []) (s [en 15 5 1,m 14 15] [0,1,5,14]<|.cond 14 (.region [m 16 1,m 17 0,o 18 (.bslice 1 3 [.v (.int .i64 (0))] [(0,(k (-1))),(1,(k 5)),(2,(k 6))]),o 19 (.call (.func F.bN) [17,18] [0]),nc 20 16,fa 21 1 20,⟨none,.store 1 21 19,none⟩] [] []) (s [en 23
 5 2,m 22 23] [0,1,5,22]<|.cond 22 (.region [m 24 1,m 25 0,o 26 (.bslice 1 4 [.v (.int .i64 (0))] [(0,(k (-1))),(1,(k 1)),(2,(k 5)),(3,(k 6))]),o 27 (.call (.func F.bN) [25,26] [0]),nc 28 24,fa 29 2 28,⟨none,.store 1 29 27,none⟩] [] []) (s [en 31 5 3,m 30 31] [0,1,5,30]<|.cond 30
 (.region [m 32 1,m 33 0,o 34 (.bslice 1 3 [.v (.int .i64 (0))] [(0,(k (-1))),(1,(k 5)),(2,(k 6))]),o 35 (.call (.func F.bN) [33,34] [0]),nc 36 32,fa 37 3 36,⟨none,.store 1 37 35,none⟩] [] []) (s [en 39 5 4,m 38 39] [0,1,5,38]<|.cond 38 (.region [m 40 1,m 41 0,o 42 (.call (.func
 F.qY) [41,(k 5)] [0]),nc 43 40,fa 44 4 43,⟨none,.store 2 44 42,none⟩] [] []) (s [en 46 5 5,m 45 46] [0,1,5,45]<|.cond 45 (.region [m 47 1,m 48 0,o 49 (.call (.func F.qY) [48,(k 5)] [0]),nc 50 47,fa 51 6 50,⟨none,.store 2 51 49,none⟩] [] []) (s [en 53 5 6,m 52 53]
 [0,1,5,52]<|.cond 52 (.region [m 54 1,m 55 0,o 56 (.bslice 1 4 [.v (.string ⟨#[]⟩)] [(0,(.const (.string ⟨#[]⟩))),(1,(.const (.string ⟨#[65]⟩))),(2,(.const (.string ⟨#[97]⟩))),(3,(.const (.string ⟨#[65,66]⟩)))]),o 57 (.call (.func F.dH) [55,56] [0]),nc 58 54,fa 59 8 58,⟨none,.store 1
 59 57,none⟩] [] []) (s [en 61 5 7,m 60 61] [0,1,60]<|.cond 60 (.region [m 62 1,m 63 0,o 64 (.call (.func F.aI) [63,(k 2)] [0]),o 65 (.bin .add (k 13) 64),o 66 (.build [.v (.int .i64 (0)),.v (.int .i64 (0))] [(0,1,(k 1)),(1,1,65)]),nc 67 62,fa 68 6 67,⟨none,.store 2 68 66,none⟩] []
 []) .skip))))))))
theorem CdV.l15Spoil_k:CK 58 Tryz.f58 CdV.l15Spoil 69 []:=ck Tryz.func58
attribute [go_sem] CdV.l15Spoil
open Go.Vs.Q in
def CdV.l02DrawField:aD:=s [o 4 (.alloc [.v (.int .i64 (0)),.v (.int .i64 (0))])] [0,1,4]<|.seq (s [m 7 0,o 8 (.call (.func F.bJ) [7,(k 12)] [0])] [0,1,4,8]<|.cond 8 (s [m 9 0,m 10 1,o 11 (.bslice 1 6 [.v (.int .i64 (0))] [(0,(k (-1))),(1,(k 0)),(2,(k 1)),(3,10),(4,(k 9223372036854775807)),(5,(k
 (-9223372036854775808)))]),o 12 (.call (.func F.bN) [9,11] [0]),m 5 12] [0,1,4,5]<|s [m 13 5,m 14 0,m 15 1,m 16 1,ad 17 16 1,o 18 (.bslice 1 5 [.v (.int .i64 (0))] [(0,(k 0)),(1,(k 1)),(2,15),(3,17),(4,(k 9223372036854775807))]),o 19 (.call (.func F.bN) [14,18]
 [0]),o 20 (.build [.v (.int .i64 (0)),.v (.int .i64 (0))] [(0,1,13),(1,1,19)]),⟨none,.store 2 4 20,none⟩] [4]<|.ret) .skip)<|s [m 21 0,m 22 1,c 23 F.tT [(k 1),22],o 24 (.call (.func F.aI) [21,23] [0]),m 6 24] [0,1,4,6]<|s [m 25 6,m 26 6,ad 27 26 1,m 28 0,m 29 1,m 30 6,o 31
 (.bin .sub 29 30),c 32 F.tT [(k 1),31],o 33 (.call (.func F.aI) [28,32] [0]),o 34 (.bin .add 27 33),o 35 (.build [.v (.int .i64 (0)),.v (.int .i64 (0))] [(0,1,25),(1,1,34)]),⟨none,.store 2 4 35,none⟩] [4]<|.ret
theorem CdV.l02DrawField_k:CK 81 Tryz.f81 CdV.l02DrawField 36 [.cell 4 26]:=ck Tryz.func81
attribute [go_sem] CdV.l02DrawField
theorem aI6 (a b:Int):Fz F.tT [.v (.int .i64 a),.v (.int .i64 b)] (.v (.int .i64 (if a>b then a else b))):=by
 refine fn0 Cd.s_l00Max_k fun X=>?_
 repeat' first|simp -dsimp only[go_sem]|apply Br.mk<;>intro h<;>try simp -dsimp only[h]|refine aC ?_|fail
 all_goals(first|(refine aO ?_;simp_all;done)|(simp_all;done)|(simp_all;omega))
attribute [local go_sem] Int.reduceBEq Int.reduceBNe cC aH List.replicate_succ List.replicate_zero List.flatten_cons List.flatten_nil List.cons_append List.nil_append List.set_cons_zero List.set_cons_succ List.length_cons List.length_nil List.length_set List.mem_singleton List.mem_cons List.not_mem_nil or_false false_or Vs.Name.t.injEq List.getD_cons_zero List.getD_cons_succ bB bC bO List.append_nil List.flatMap_cons List.flatMap_nil Int.reduceAdd Int.reduceSub in
theorem aCr (l:List Int) (x:Sr) (hl:byt l) (hp:x.p≤2900):∃f0 f1 z,z.p≤x.p+8∧Vs.Fn Tryz.prog F.qY [sB l x] [.ptr (.b 0) 0 0,.v (.int .i64 5)] (.agg [.v (.int .i64 f0),.v (.int .i64 f1)]) [some (sB l z)]:=by
 have P1:=one l x hl 12 (by omega);have q1:=bD l x 12;obtain⟨b1,hb1⟩:∃b,(pkV l x 12==0)=b:=⟨_,rfl⟩;rw[hb1] at P1;generalize pkS l x 12=y1 at *
 cases b1
 ·have h2:=dI hl y1 (n:=5) (by omega);have P2:=pick l y1 hl 5 (by omega);have q2:=bD l y1 5;generalize pkV l y1 5=v2 at *
  generalize pkS l y1 5=y2 at *
  have M1:=aI6 1 5;rw[show(if(1:Int)>5 then(1:Int) else 5)=5 from rfl] at M1;have w5:IntKind.i64.wrap (5-v2)=5-v2:=aR (by omega) (by omega);have M2:=aI6 1 (5-v2);rw[show(if(1:Int)>5-v2 then(1:Int) else 5-v2)=5-v2 by split<;>omega] at M2;have P3:=pick l y2 hl (5-v2) (by omega);have q3:=bD l y2 (5-v2);generalize pkV l y2 (5-v2)=v3 at *
  generalize pkS l y2 (5-v2)=z at *
  refine⟨v2,IntKind.i64.wrap (IntKind.i64.wrap (v2+1)+v3),z,by omega,?_⟩;refine fn1 CdV.l02DrawField_k [.b 0] [sB l z] fun X=>?_;unfold CdV.l02DrawField
  repeat' first|simp -dsimp only[go_sem,sB,w5]|apply Br.mk<;>intro h<;>try simp -dsimp only[h]|refine aA.bor (by first|exact P1|exact P2|exact P3) rfl ?_|refine aA.c (by first|exact M1|exact M2) ?_|refine aC ?_|fail
  all_goals first|exact⟨_,_,rfl,rfl⟩
 ·have A1:=among l y1 hl [-1,0,1,5,9223372036854775807,-9223372036854775808] (by omega) (by simp) (by simp);have q2:=bD l y1 (([-1,0,1,5,9223372036854775807,-9223372036854775808]:List Int).length:Nat);generalize([-1,0,1,5,9223372036854775807,-9223372036854775808]:List Int).getD _ 0=v2 at *
  generalize pkS l y1 (([-1,0,1,5,9223372036854775807,-9223372036854775808]:List Int).length:Nat)=y2 at *
  have A2:=among l y2 hl [0,1,5,6,9223372036854775807] (by omega) (by simp) (by simp);have q3:=bD l y2 (([0,1,5,6,9223372036854775807]:List Int).length:Nat);generalize([0,1,5,6,9223372036854775807]:List Int).getD _ 0=v3 at *
  generalize pkS l y2 (([0,1,5,6,9223372036854775807]:List Int).length:Nat)=z at *
  have w6:IntKind.i64.wrap (5+1)=6:=rfl;refine⟨v2,v3,z,by omega,?_⟩;refine fn1 CdV.l02DrawField_k [.b 0] [sB l z] fun X=>?_;unfold CdV.l02DrawField
  repeat' first|simp -dsimp only[go_sem,sB,w6]|apply Br.mk<;>intro h<;>try simp -dsimp only[h]|refine aA.bor (by first|exact P1) rfl ?_|refine aA.borM (by first|exact A1|exact A2) rfl ?_|refine aC ?_|fail
  all_goals first|exact⟨_,_,rfl,rfl⟩
theorem aBm {o:List Stp}{i:Nat} (hi:i<o.length):(E cS o).getD i []=[.v (.int .i64 o[i].kind),.v (.int .i64 o[i].a),.v (.int .i64 o[i].b),.v (.int .i64 o[i].to),.v (.int .i64 o[i].f0),.v (.int .i64 o[i].f1),.v (.int .i64 o[i].s0),.v (.int .i64 o[i].s1),.v (.string o[i].text)]:=aX hi
theorem xP (o:List Stp) (i:Nat) (y:Stp):(E cS o).set i [.v (.int .i64 y.kind),.v (.int .i64 y.a),.v (.int .i64 y.b),.v (.int .i64 y.to),.v (.int .i64 y.f0),.v (.int .i64 y.f1),.v (.int .i64 y.s0),.v (.int .i64 y.s1),.v (.string y.text)]=E cS (o.set i y):=by simp[E,List.map_set,cS]
theorem spW {p:Prop} (h:p:=by
  refine fn1 CdV.l15Spoil_k [.b 0,.b 1] [sB l z,.arr 9 (E cS (o.set i ns)) false] fun X=>?_;unfold CdV.l15Spoil
  repeat' first|simp -dsimp only[go_sem,Int.reduceBEq,Int.reduceBNe,cC,aH,List.replicate_succ,List.replicate_zero,List.flatten_cons,List.flatten_nil,List.cons_append,List.nil_append,List.set_cons_zero,List.set_cons_succ,List.length_cons,List.length_nil,List.length_set,List.mem_singleton,List.mem_cons,List.not_mem_nil,or_false,false_or,Vs.Name.t.injEq,List.getD_cons_zero,List.getD_cons_succ,bB,bC,bO,sB,List.append_nil,List.flatMap_cons,List.flatMap_nil,Int.reduceAdd,Int.reduceSub,Vs.Name.b.injEq,Nat.one_ne_zero,Nat.zero_ne_one,and_true,and_false,true_and,false_and,cS,hlo,hgi,hst,aH,List.getD_cons_zero,List.getD_cons_succ,List.set_cons_zero,List.set_cons_succ,List.take_succ_cons,List.take_zero,List.drop_succ_cons,List.drop_zero,List.cons_append,List.nil_append]|apply Br.mk<;>intro h<;>try simp -dsimp only[h]|refine aA.bor (by first|exact P1|exact P2|exact DF) rfl ?_|refine aA.borM (by first|exact A1) rfl ?_|refine aC ?_|fail
  all_goals first|omega|exact⟨_,_,rfl,rfl⟩|(refine⟨⟨by omega,by omega⟩,?_⟩;exact⟨_,_,rfl,rfl⟩)):p:=h
theorem tx4 (i:Nat):(([⟨#[]⟩,⟨#[65]⟩,⟨#[97]⟩,⟨#[65,66]⟩]:List ByteArray).getD i ⟨#[]⟩).size≤2:=by
 rcases i with _|_|_|_|i<;>first|decide|exact Nat.zero_le _
theorem aLo (l:List Int) (x:Sr) (hl:byt l) (hp:x.p≤2800) (o:List Stp) (i:Nat) (hi:i<o.length) (ho:o.length≤100) (hsz:o[i].text.size≤2):∃s z,z.p≤x.p+20∧s.text.size≤2∧Vs.Fn Tryz.prog F.nO [sB l x,.arr 9 (E cS o) false] [.ptr (.b 0) 0 0,.ptr (.b 1) i 0] (.tup []) [some (sB l z),some (.arr 9 (E cS (o.set i s)) false)]:=by
 have hlo:(E cS o).length=o.length:=aH _;have P1:=pick l x hl 8 (by omega);have q1:=bD l x 8;have h1:=dI hl x (n:=8) (by omega);generalize pkV l x 8=v1 at *
 generalize pkS l x 8=y1 at *
 have hv:v1=0∨v1=1∨v1=2∨v1=3∨v1=4∨v1=5∨v1=6∨v1=7:=by omega
 rcases hv with rfl|rfl|rfl|rfl|rfl|rfl|rfl|rfl
 ·have A1:=among l y1 hl [0,7,8,-1] (by omega) (by simp) (by simp);have q2:=bD l y1 (([0,7,8,-1]:List Int).length:Nat);generalize([0,7,8,-1]:List Int).getD _ 0=w at *
  generalize pkS l y1 (([0,7,8,-1]:List Int).length:Nat)=z at *
  refine⟨⟨w,o[i].a,o[i].b,o[i].to,o[i].f0,o[i].f1,o[i].s0,o[i].s1,o[i].text⟩,z,by omega,by show o[i].text.size≤2;exact hsz,?_⟩;have hgi:=aBm hi;have hst:=xP o i ⟨w,o[i].a,o[i].b,o[i].to,o[i].f0,o[i].f1,o[i].s0,o[i].s1,o[i].text⟩;dsimp only at hst;generalize o[i]=s at *
  generalize(⟨w,s.a,s.b,s.to,s.f0,s.f1,s.s0,s.s1,s.text⟩:Stp)=ns at *
  exact spW
 ·have A1:=among l y1 hl [-1,5,6] (by omega) (by simp) (by simp);have q2:=bD l y1 (([-1,5,6]:List Int).length:Nat);generalize([-1,5,6]:List Int).getD _ 0=w at *
  generalize pkS l y1 (([-1,5,6]:List Int).length:Nat)=z at *
  refine⟨⟨o[i].kind,w,o[i].b,o[i].to,o[i].f0,o[i].f1,o[i].s0,o[i].s1,o[i].text⟩,z,by omega,by show o[i].text.size≤2;exact hsz,?_⟩;have hgi:=aBm hi;have hst:=xP o i ⟨o[i].kind,w,o[i].b,o[i].to,o[i].f0,o[i].f1,o[i].s0,o[i].s1,o[i].text⟩;dsimp only at hst;generalize o[i]=s at *
  generalize(⟨s.kind,w,s.b,s.to,s.f0,s.f1,s.s0,s.s1,s.text⟩:Stp)=ns at *
  exact spW
 ·have A1:=among l y1 hl [-1,1,5,6] (by omega) (by simp) (by simp);have q2:=bD l y1 (([-1,1,5,6]:List Int).length:Nat);generalize([-1,1,5,6]:List Int).getD _ 0=w at *
  generalize pkS l y1 (([-1,1,5,6]:List Int).length:Nat)=z at *
  refine⟨⟨o[i].kind,o[i].a,w,o[i].to,o[i].f0,o[i].f1,o[i].s0,o[i].s1,o[i].text⟩,z,by omega,by show o[i].text.size≤2;exact hsz,?_⟩;have hgi:=aBm hi;have hst:=xP o i ⟨o[i].kind,o[i].a,w,o[i].to,o[i].f0,o[i].f1,o[i].s0,o[i].s1,o[i].text⟩;dsimp only at hst;generalize o[i]=s at *
  generalize(⟨s.kind,s.a,w,s.to,s.f0,s.f1,s.s0,s.s1,s.text⟩:Stp)=ns at *
  exact spW
 ·have A1:=among l y1 hl [-1,5,6] (by omega) (by simp) (by simp);have q2:=bD l y1 (([-1,5,6]:List Int).length:Nat);generalize([-1,5,6]:List Int).getD _ 0=w at *
  generalize pkS l y1 (([-1,5,6]:List Int).length:Nat)=z at *
  refine⟨⟨o[i].kind,o[i].a,o[i].b,w,o[i].f0,o[i].f1,o[i].s0,o[i].s1,o[i].text⟩,z,by omega,by show o[i].text.size≤2;exact hsz,?_⟩;have hgi:=aBm hi;have hst:=xP o i ⟨o[i].kind,o[i].a,o[i].b,w,o[i].f0,o[i].f1,o[i].s0,o[i].s1,o[i].text⟩;dsimp only at hst;generalize o[i]=s at *
  generalize(⟨s.kind,s.a,s.b,w,s.f0,s.f1,s.s0,s.s1,s.text⟩:Stp)=ns at *
  exact spW
 ·obtain⟨w0,w1,z,q2,DF⟩:=aCr l y1 hl (by omega);refine⟨⟨o[i].kind,o[i].a,o[i].b,o[i].to,w0,w1,o[i].s0,o[i].s1,o[i].text⟩,z,by omega,by show o[i].text.size≤2;exact hsz,?_⟩;have hgi:=aBm hi;have hst:=xP o i ⟨o[i].kind,o[i].a,o[i].b,o[i].to,w0,w1,o[i].s0,o[i].s1,o[i].text⟩;dsimp only at hst;generalize o[i]=s at *
  generalize(⟨s.kind,s.a,s.b,s.to,w0,w1,s.s0,s.s1,s.text⟩:Stp)=ns at *
  exact spW
 ·obtain⟨w0,w1,z,q2,DF⟩:=aCr l y1 hl (by omega);refine⟨⟨o[i].kind,o[i].a,o[i].b,o[i].to,o[i].f0,o[i].f1,w0,w1,o[i].text⟩,z,by omega,by show o[i].text.size≤2;exact hsz,?_⟩;have hgi:=aBm hi;have hst:=xP o i ⟨o[i].kind,o[i].a,o[i].b,o[i].to,o[i].f0,o[i].f1,w0,w1,o[i].text⟩;dsimp only at hst;generalize o[i]=s at *
  generalize(⟨s.kind,s.a,s.b,s.to,s.f0,s.f1,w0,w1,s.text⟩:Stp)=ns at *
  exact spW
 ·have A1:=text l y1 hl [⟨#[]⟩,⟨#[65]⟩,⟨#[97]⟩,⟨#[65,66]⟩] (by omega) (by simp) (by simp);have q2:=bD l y1 (([⟨#[]⟩,⟨#[65]⟩,⟨#[97]⟩,⟨#[65,66]⟩]:List ByteArray).length:Nat);have hts:(([⟨#[]⟩,⟨#[65]⟩,⟨#[97]⟩,⟨#[65,66]⟩]:List ByteArray).getD (pkV l y1 (([⟨#[]⟩,⟨#[65]⟩,⟨#[97]⟩,⟨#[65,66]⟩]:List ByteArray).length:Nat)).toNat ⟨#[]⟩).size≤2:=tx4 _;unfold cSt at A1;simp only[Vs.E,List.map_cons,List.map_nil] at A1;generalize([⟨#[]⟩,⟨#[65]⟩,⟨#[97]⟩,⟨#[65,66]⟩]:List ByteArray).getD _ ⟨#[]⟩=w at *
  generalize pkS l y1 (([⟨#[]⟩,⟨#[65]⟩,⟨#[97]⟩,⟨#[65,66]⟩]:List ByteArray).length:Nat)=z at *
  refine⟨⟨o[i].kind,o[i].a,o[i].b,o[i].to,o[i].f0,o[i].f1,o[i].s0,o[i].s1,w⟩,z,by omega,hts,?_⟩;have hgi:=aBm hi;have hst:=xP o i ⟨o[i].kind,o[i].a,o[i].b,o[i].to,o[i].f0,o[i].f1,o[i].s0,o[i].s1,w⟩;dsimp only at hst;generalize o[i]=s at *
  generalize(⟨s.kind,s.a,s.b,s.to,s.f0,s.f1,s.s0,s.s1,w⟩:Stp)=ns at *
  exact spW
 ·have P2:=pick l y1 hl 2 (by omega);have q2:=bD l y1 2;generalize pkV l y1 2=w at *
  generalize pkS l y1 2=z at *
  refine⟨⟨o[i].kind,o[i].a,o[i].b,o[i].to,o[i].f0,o[i].f1,1,IntKind.i64.wrap (13+w),o[i].text⟩,z,by omega,by show o[i].text.size≤2;exact hsz,?_⟩;have hgi:=aBm hi;have hst:=xP o i ⟨o[i].kind,o[i].a,o[i].b,o[i].to,o[i].f0,o[i].f1,1,IntKind.i64.wrap (13+w),o[i].text⟩;dsimp only at hst;generalize o[i]=s at *
  generalize(⟨s.kind,s.a,s.b,s.to,s.f0,s.f1,1,IntKind.i64.wrap (13+w),s.text⟩:Stp)=ns at *
  exact spW
end
section
variable [Vs.Envs]
attribute [local irreducible] Vs.Fn nxV nxS pkV pkS ptN crd dP dtF uX
open Go.Vs.Q in
def CdV.l15DrawFlow:aD:=s [mn 2] [0]<|.seq (.naming 3 (.region [o 8 (.bslice 9 0 [.v (.int .i64 (0)),.v (.int .i64 (0)),.v (.int .i64 (0)),.v (.int .i64 (0)),.v (.int .i64 (0)),.v (.int .i64 (0)),.v (.int .i64 (0)),.v (.int .i64 (0)),.v (.string ⟨#[]⟩)] []),m 3 8] [0,3] []))<|.seq (s [m 9 0,o 10 (.call (.func
 F.bJ) [9,(k 2)] [0])] [0,3,10]<|.cond 10 (s [m 11 0,o 12 (.call (.func F.aI) [11,(k 3)] [0]),m 4 12] [0,3,4]<|.naming 3 (.region [m 13 3,o 14 (.build [.v (.int .i64 (0)),.v (.int .i64 (0))] [(1,1,(k 1))]),m 15 4,o 16 (.build [.v (.int .i64 (0)),.v (.int .i64 (0)),.v
 (.int .i64 (0)),.v (.int .i64 (0)),.v (.int .i64 (0)),.v (.int .i64 (0)),.v (.int .i64 (0)),.v (.int .i64 (0)),.v (.string ⟨#[]⟩)] [(0,1,(k 1)),(4,2,14),(3,1,15)]),o 17 (.bslice 9 1 [.v (.int .i64 (0)),.v (.int .i64 (0)),.v (.int .i64 (0)),.v (.int .i64 (0)),.v (.int .i64 (0)),.v (.int .i64 (0)),.v
 (.int .i64 (0)),.v (.int .i64 (0)),.v (.string ⟨#[]⟩)] [(0,16)]),o 18 (.append 9 80 13 17),m 3 18] [0,3] [])) .skip)<|.seq (s [m 19 0,o 20 (.call (.func F.aI) [19,(k 6)] [0]),m 5 20] [0,3,5]<|.block 0 (.loop (.seq (s [m 21 5,o 22 (.bin .gtr 21 (k 0))] [0,3,5,22]<|.cond 22 .skip
 (.exit 0))<|.seq (.block 1 (.naming 3 (.region [m 25 3,m 26 0,o 27 (.call (.func F.iH) [26] [0]),o 28 (.bslice 9 1 [.v (.int .i64 (0)),.v (.int .i64 (0)),.v (.int .i64 (0)),.v (.int .i64 (0)),.v (.int .i64 (0)),.v (.int .i64 (0)),.v (.int .i64 (0)),.v (.int .i64 (0)),.v (.string ⟨#[]⟩)]
 [(0,27)]),o 29 (.append 9 80 25 28),m 3 29] [0,3,5] [])))<|.region [m 23 5,o 24 (.bin .sub 23 (k 1)),m 5 24] [0,3,5] [])))<|s [m 30 3,ln 31 30,m 6 31] [0,3,6]<|.seq (s [m 32 6,o 33 (.bin .gtr 32 (k 0)),m 34 33,mg 35 0 34 true,⟨some 36,.call (.func F.bJ) [35,(k 10)] [0],some
 (34,true)⟩,pf 37 34 36] [0,3,6,37]<|.cond 37 (.region [m 38 0,m 39 3,m 40 0,m 41 6,o 42 (.call (.func F.aI) [40,41] [0]),ix 43 9 39 42,o 44 (.call (.func F.nO) [38,43] [0,1])] [0,3] []) .skip)<|.seq (s [m 45 0,o 46 (.call (.func F.bJ) [45,(k 24)] [0])]
 [0,3,46]<|.cond 46 (.seq (.naming 3 (.region [o 47 (.bslice 9 0 [.v (.int .i64 (0)),.v (.int .i64 (0)),.v (.int .i64 (0)),.v (.int .i64 (0)),.v (.int .i64 (0)),.v (.int .i64 (0)),.v (.int .i64 (0)),.v (.int .i64 (0)),.v (.string ⟨#[]⟩)] []),m 3 47] [0,3] []))<|s [m 48 0,o 49 (.call (.func
 F.aI) [48,(k 2)] [0]),o 50 (.bin .add (k 20) 49),m 7 50] [3,7]<|.block 2 (.loop (.seq (s [m 51 7,o 52 (.bin .gtr 51 (k 0))] [3,7,52]<|.cond 52 .skip (.exit 2))<|.seq (.block 3 (.naming 3 (.region [m 55 3,o 56 (.build [.v (.int .i64 (0)),.v (.int .i64 (0))] [(1,1,(k 1))]),o 57 (.build
 [.v (.int .i64 (0)),.v (.int .i64 (0))] [(0,1,(k 1)),(1,1,(k 3))]),o 58 (.build [.v (.int .i64 (0)),.v (.int .i64 (0)),.v (.int .i64 (0)),.v (.int .i64 (0)),.v (.int .i64 (0)),.v (.int .i64 (0)),.v (.int .i64 (0)),.v (.int .i64 (0)),.v (.string ⟨#[]⟩)] [(0,1,(k 7)),(4,2,56),(6,2,57)]),o 59 (.bslice 9
 1 [.v (.int .i64 (0)),.v (.int .i64 (0)),.v (.int .i64 (0)),.v (.int .i64 (0)),.v (.int .i64 (0)),.v (.int .i64 (0)),.v (.int .i64 (0)),.v (.int .i64 (0)),.v (.string ⟨#[]⟩)] [(0,58)]),o 60 (.append 9 80 55 59),m 3 60] [3,7] [])))<|.region [m 53 7,o 54 (.bin .sub 53 (k 1)),m 7 54] [3,7] [])))
 .skip)<|s [m 61 3,m 2 61] [2]<|.ret
theorem CdV.l15DrawFlow_k:CK 34 Tryz.f34 CdV.l15DrawFlow 62 [.tmp 2]:=ck Tryz.func34
attribute [go_sem] CdV.l15DrawFlow
def okZ (o:List Stp):Prop:=∀s,s∈o→s.text.size≤2
theorem aKz {o:List Stp}{s:Stp} (h:okZ o) (hs:s.text.size≤2):okZ (o++[s]):=by
 intro t ht;rcases List.mem_append.1 ht with ht|ht
 ·exact h t ht
 ·rw[List.mem_singleton.1 ht];exact hs
theorem aGD {o:List Stp}{s:Stp}{i:Nat} (h:okZ o) (hs:s.text.size≤2):okZ (o.set i s):=by
 intro t ht;rcases List.mem_or_eq_of_mem_set ht with ht|rfl
 ·exact h t ht
 ·exact hs
def stU (l:List Int):Nat→Sr→List Stp→List Stp→Sr→Prop
 |0,x,o,o',x'=>o'=o∧x'=x
 |k+1,x,o,o',x'=>∃s x1,s.text.size≤2∧x1.p≤x.p+30∧Vs.Fn Tryz.prog F.iH [sB l x] [.ptr (.b 0) 0 0] (.agg (cS s)) [some (sB l x1)]∧stU l k x1 (o++[s]) o' x'
theorem aFx {l:List Int} (hl:byt l):∀(k:Nat) (x:Sr) (o:List Stp),x.p+30*k≤2900→okZ o→∃o' x',(x'.p≤x.p+30*k∧o'.length=o.length+k∧okZ o')∧stU l k x o o' x'
 |0,x,o,_,h=>⟨o,x,⟨by omega,by omega,h⟩,rfl,rfl⟩
 | k+1,x,o,h,ho=>by
  obtain⟨s,x1,hs,hx1,hf⟩:=aJv l x hl (by omega);obtain⟨o',x',⟨h1,h2,h3⟩,h4⟩:=aFx hl k x1 (o++[s]) (by omega) (aKz ho hs);exact⟨o',x',⟨by omega,by rw[h2,List.length_append,List.length_singleton];omega,h3⟩,s,x1,hs,hx1,hf,h4⟩
abbrev O1 (l:List Int) (y:Sr) (n:Int) (b:Bool) (z:Sr):Prop:=Vs.Fn Tryz.prog F.bJ [sB l y] [.ptr (.b 0) 0 0,.v (.int .i64 n)] (.v (.bool b)) [some (sB l z)]
abbrev PK (l:List Int) (y:Sr) (n v:Int) (z:Sr):Prop:=Vs.Fn Tryz.prog F.aI [sB l y] [.ptr (.b 0) 0 0,.v (.int .i64 n)] (.v (.int .i64 v)) [some (sB l z)]
def aDI (t:Int):Stp:=⟨1,0,0,t,0,1,0,0,⟨#[]⟩⟩
def totS:Stp:=⟨7,0,0,0,0,1,1,3,⟨#[]⟩⟩
def qP (n:Nat):List Stp:=List.replicate n totS
theorem qO (n:Nat):(qP n).length=n:=List.length_replicate ..
theorem yA (n:Nat):okZ (qP n):=by
 intro t ht;unfold qP at ht;rw[(List.mem_replicate.1 ht).2];exact Nat.zero_le _
theorem aIC (n:Nat):E cS (qP n)++[[.v (.int .i64 7),.v (.int .i64 0),.v (.int .i64 0),.v (.int .i64 0),.v (.int .i64 0),.v (.int .i64 1),.v (.int .i64 1),.v (.int .i64 3),.v (.string ⟨#[]⟩)]]=E cS (qP (n+1)):=by
 unfold qP;rw[List.replicate_succ',aY];rfl
theorem aHf:E cS (qP 0)=[]:=rfl
section
attribute [local go_sem] Int.reduceBEq Int.reduceBNe cC aH List.replicate_succ List.replicate_zero List.flatten_cons List.flatten_nil List.cons_append List.nil_append List.set_cons_zero List.set_cons_succ List.length_cons List.length_nil List.length_set List.mem_singleton List.mem_cons List.not_mem_nil or_false false_or Vs.Name.t.injEq List.getD_cons_zero List.getD_cons_succ bB bC bO sB List.append_nil List.flatMap_cons List.flatMap_nil cS aH List.take_succ_cons List.take_zero List.drop_succ_cons List.drop_zero Vs.Name.b.injEq Nat.one_ne_zero Nat.zero_ne_one and_true and_false true_and false_and
set_option maxRecDepth 20000 in
theorem dfW {p:Prop} (h:p:=by
  first
    |refine fn1 CdV.l15DrawFlow_k [.b 0] [sB l y9] fun X=>?_
    |refine fn1 CdV.l15DrawFlow_k [.b 0] [sB l y8] fun X=>?_
  unfold CdV.l15DrawFlow
  repeat' first|simp -dsimp only[go_sem,e0,w20]|apply Br.mk<;>intro h<;>try simp -dsimp only[h]|refine aA.bor (by first|exact P2|exact P6|exact PT) rfl ?_|refine aC ?_|fail
  refine aN.at dM (X:={zz:Nat×Sr×List Stp // (zz.2.1.p+30*zz.1≤2700)∧(zz.1+zz.2.2.length≤6)∧stU l zz.1 zz.2.1 zz.2.2 o1 y4}) (fun zz=>[(3,.loc (.t 3 0) 0 zz.1.2.2.length),(5,.v (.int .i64 (zz.1.1:Nat)))]) (fun zz=>[(.b 0,sB l zz.1.2.1),(.t 3 0,.arr 9 (E cS zz.1.2.2) false)]) (fun zz=>zz.1.1) (by first|exact⟨(k0,y3,[]),by dsimp only;omega,by dsimp only;simp only[List.length_nil,List.length_cons];omega,hT⟩|exact⟨(k0,y3,[aDI to]),by dsimp only;omega,by dsimp only;simp only[List.length_nil,List.length_cons];omega,hT⟩) ?_ ?_
  · simp[Vs.LeL,Vs.look,Vs.aB,Vs.aP,Vs.aK,Vs.hset,Vs.aL,Vs.E,sB,cS,aDI]
  · rintro⟨⟨k,y,o⟩,hk1,hk2,hr⟩
    dsimp only at hk1 hk2 hr;simp -dsimp only[go_sem];refine Br.mk (fun hc=>?_) fun hc=>?_
    · obtain⟨k,rfl⟩:∃j,k=j+1:=⟨k-1,by simp at hc;omega⟩
      have w:=subK (k:=k) (by omega);obtain⟨s,y1',hs,hy1,hf,hr⟩:=hr;have hap:E cS o++[[.v (.int .i64 s.kind),.v (.int .i64 s.a),.v (.int .i64 s.b),.v (.int .i64 s.to),.v (.int .i64 s.f0),.v (.int .i64 s.f1),.v (.int .i64 s.s0),.v (.int .i64 s.s1),.v (.string s.text)]]=E cS (o++[s]):=by rw[aY];rfl
      repeat' first|simp -dsimp only[go_sem,w,hap]|apply Br.mk<;>intro h<;>try simp -dsimp only[h]|refine aA.bor (by first|exact hf) rfl ?_|refine aC ?_|fail

      all_goals first|omega|(refine⟨⟨(k,y1',o++[s]),by dsimp only;omega,by dsimp only;rw[List.length_append];simp only[List.length_cons,List.length_nil];omega,hr⟩,?_,by simp only;omega⟩;simp[Vs.LeL,Vs.look,Vs.aB,Vs.aP,Vs.aK,Vs.hset,Vs.aL,Vs.E,sB,cS];done)
    · obtain rfl:k=0:=by simp at hc;omega
      obtain⟨rfl,rfl⟩:=hr;have htk:(E cS o1).take o1.length=E cS o1:=List.take_of_length_le (by rw[aH];exact Nat.le_refl _)
      try have htk2:(E cS (o1.set i9 s9)).take o1.length=E cS (o1.set i9 s9):=List.take_of_length_le (by rw[aH,List.length_set];exact Nat.le_refl _)
      repeat' first|simp -dsimp only[go_sem,e0,w20]|apply Br.mk<;>intro h<;>try simp -dsimp only[h]|refine aA.borG (by first|exact SP) rfl ?_|refine aA.bor (by first|exact P24|exact P10|exact PN|exact P2b) rfl ?_|refine And.intro ?_ (fun h=>absurd rfl h)|refine aC ?_|fail

      all_goals first|omega|exact⟨_,_,rfl,rfl⟩|exact⟨⟨_,_,rfl,rfl⟩,fun h=>absurd rfl h⟩|(refine⟨?_,fun h=>absurd rfl h⟩;exact⟨_,_,rfl,rfl⟩)|(rw[htk];exact⟨_,_,rfl,rfl⟩)|(rw[htk2];exact⟨_,_,rfl,rfl⟩)|skip
      all_goals
        refine aN.at dM (X:={zz:Nat×Nat // zz.1+zz.2=20+e9}) (fun zz=>[(3,.loc (.t 3 0) 0 zz.1.2),(7,.v (.int .i64 (zz.1.1:Nat)))]) (fun zz=>[(.t 3 0,.arr 9 (E cS (qP zz.1.2)) false)]) (fun zz=>zz.1.1) ⟨(20+e9,0),rfl⟩ ?_ ?_
        · simp[Vs.LeL,Vs.look,Vs.aB,Vs.aP,Vs.aK,Vs.hset,Vs.aL,aHf,sB]
        · rintro⟨⟨k,j⟩,hkj⟩
          dsimp only at hkj;have hrl:(E cS (qP j)).length=j:=by rw[aH,qO]
          simp -dsimp only[go_sem,hrl];refine Br.mk (fun hc=>?_) fun hc=>?_
          · obtain⟨k,rfl⟩:∃i,k=i+1:=⟨k-1,by simp at hc;omega⟩
            have w:=subK (k:=k) (by omega);have hap:=aIC j
            repeat' first|simp -dsimp only[go_sem,hrl,w,hap]|apply Br.mk<;>intro h<;>try simp -dsimp only[h]|refine aC ?_|fail

            all_goals first|omega|(refine⟨⟨(k,j+1),by dsimp only;omega⟩,?_,by simp only;omega⟩;simp[Vs.LeL,Vs.look,Vs.aB,Vs.aP,Vs.aK,Vs.hset,Vs.aL];done)
          · obtain rfl:k=0:=by simp at hc;omega
            obtain rfl:j=20+e9:=by omega
            have htk:(E cS (qP (20+e9))).take (20+e9)=E cS (qP (20+e9)):=List.take_of_length_le (by rw[hrl];exact Nat.le_refl _)
            try simp -dsimp only[go_sem,hrl]
            all_goals first|exact⟨⟨_,_,rfl,rfl⟩,fun h=>absurd rfl h⟩|(rw[htk];exact⟨⟨_,_,rfl,rfl⟩,fun h=>absurd rfl h⟩)):p:=h
set_option maxRecDepth 20000 in
theorem df000 (l:List Int) (x:Sr) (hl:byt l) (y1:Sr) (y3:Sr) (y4:Sr) (y8:Sr) (k0:Nat) (o1:List Stp) (P2:O1 l x 2 false y1) (P6:PK l y1 6 (k0:Nat) y3) (hk0:k0≤5) (hy3:y3.p≤2000) (hT:stU l k0 y3 [] o1 y4) (ho1:o1.length≤6) (e0:decide ((o1.length:Int)>0)=false) (P24:O1 l y4 24 false y8) (e9:Nat) (he9:e9≤1) (w20:IntKind.i64.wrap (20+(e9:Int))=((20+e9:Nat):Int)):Vs.Fn Tryz.prog F.bP [sB l x] [.ptr (.b 0) 0 0] (.sl 9 (E cS o1)) [some (sB l y8)]:=dfW
set_option maxRecDepth 20000 in
theorem df001 (l:List Int) (x:Sr) (hl:byt l) (y1:Sr) (y3:Sr) (y4:Sr) (y8:Sr) (k0:Nat) (o1:List Stp) (P2:O1 l x 2 false y1) (P6:PK l y1 6 (k0:Nat) y3) (hk0:k0≤5) (hy3:y3.p≤2000) (hT:stU l k0 y3 [] o1 y4) (ho1:o1.length≤6) (e0:decide ((o1.length:Int)>0)=false) (P24:O1 l y4 24 true y8) (e9:Nat) (he9:e9≤1) (w20:IntKind.i64.wrap (20+(e9:Int))=((20+e9:Nat):Int)) (y9:Sr) (P2b:PK l y8 2 (e9:Nat) y9):Vs.Fn Tryz.prog F.bP [sB l x] [.ptr (.b 0) 0 0] (.sl 9 (E cS (qP (20+e9)))) [some (sB l y9)]:=dfW
set_option maxRecDepth 20000 in
theorem df010 (l:List Int) (x:Sr) (hl:byt l) (y1:Sr) (y3:Sr) (y4:Sr) (y8:Sr) (k0:Nat) (o1:List Stp) (P2:O1 l x 2 false y1) (P6:PK l y1 6 (k0:Nat) y3) (hk0:k0≤5) (hy3:y3.p≤2000) (hT:stU l k0 y3 [] o1 y4) (ho1:o1.length≤6) (e0:decide ((o1.length:Int)>0)=true) (y5:Sr) (P10:O1 l y4 10 false y5) (P24:O1 l y5 24 false y8) (e9:Nat) (he9:e9≤1) (w20:IntKind.i64.wrap (20+(e9:Int))=((20+e9:Nat):Int)):Vs.Fn Tryz.prog F.bP [sB l x] [.ptr (.b 0) 0 0] (.sl 9 (E cS o1)) [some (sB l y8)]:=dfW
set_option maxRecDepth 20000 in
theorem df011 (l:List Int) (x:Sr) (hl:byt l) (y1:Sr) (y3:Sr) (y4:Sr) (y8:Sr) (k0:Nat) (o1:List Stp) (P2:O1 l x 2 false y1) (P6:PK l y1 6 (k0:Nat) y3) (hk0:k0≤5) (hy3:y3.p≤2000) (hT:stU l k0 y3 [] o1 y4) (ho1:o1.length≤6) (e0:decide ((o1.length:Int)>0)=true) (y5:Sr) (P10:O1 l y4 10 false y5) (P24:O1 l y5 24 true y8) (e9:Nat) (he9:e9≤1) (w20:IntKind.i64.wrap (20+(e9:Int))=((20+e9:Nat):Int)) (y9:Sr) (P2b:PK l y8 2 (e9:Nat) y9):Vs.Fn Tryz.prog F.bP [sB l x] [.ptr (.b 0) 0 0] (.sl 9 (E cS (qP (20+e9)))) [some (sB l y9)]:=dfW
set_option maxRecDepth 20000 in
theorem df020 (l:List Int) (x:Sr) (hl:byt l) (y1:Sr) (y3:Sr) (y4:Sr) (y8:Sr) (k0:Nat) (o1:List Stp) (P2:O1 l x 2 false y1) (P6:PK l y1 6 (k0:Nat) y3) (hk0:k0≤5) (hy3:y3.p≤2000) (hT:stU l k0 y3 [] o1 y4) (ho1:o1.length≤6) (e0:decide ((o1.length:Int)>0)=true) (y5:Sr) (P10:O1 l y4 10 true y5) (y6:Sr) (y7:Sr) (i9:Nat) (hi9:i9<o1.length) (s9:Stp) (PN:PK l y5 (o1.length:Nat) (i9:Nat) y6) (SP:Vs.Fn Tryz.prog F.nO [sB l y6,.arr 9 (E cS o1) false] [.ptr (.b 0) 0 0,.ptr (.b 1) i9 0] (.tup []) [some (sB l y7),some (.arr 9 (E cS (o1.set i9 s9)) false)]) (P24:O1 l y7 24 false y8) (e9:Nat) (he9:e9≤1) (w20:IntKind.i64.wrap (20+(e9:Int))=((20+e9:Nat):Int)):Vs.Fn Tryz.prog F.bP [sB l x] [.ptr (.b 0) 0 0] (.sl 9 (E cS (o1.set i9 s9))) [some (sB l y8)]:=dfW
set_option maxRecDepth 20000 in
theorem df021 (l:List Int) (x:Sr) (hl:byt l) (y1:Sr) (y3:Sr) (y4:Sr) (y8:Sr) (k0:Nat) (o1:List Stp) (P2:O1 l x 2 false y1) (P6:PK l y1 6 (k0:Nat) y3) (hk0:k0≤5) (hy3:y3.p≤2000) (hT:stU l k0 y3 [] o1 y4) (ho1:o1.length≤6) (e0:decide ((o1.length:Int)>0)=true) (y5:Sr) (P10:O1 l y4 10 true y5) (y6:Sr) (y7:Sr) (i9:Nat) (hi9:i9<o1.length) (s9:Stp) (PN:PK l y5 (o1.length:Nat) (i9:Nat) y6) (SP:Vs.Fn Tryz.prog F.nO [sB l y6,.arr 9 (E cS o1) false] [.ptr (.b 0) 0 0,.ptr (.b 1) i9 0] (.tup []) [some (sB l y7),some (.arr 9 (E cS (o1.set i9 s9)) false)]) (P24:O1 l y7 24 true y8) (e9:Nat) (he9:e9≤1) (w20:IntKind.i64.wrap (20+(e9:Int))=((20+e9:Nat):Int)) (y9:Sr) (P2b:PK l y8 2 (e9:Nat) y9):Vs.Fn Tryz.prog F.bP [sB l x] [.ptr (.b 0) 0 0] (.sl 9 (E cS (qP (20+e9)))) [some (sB l y9)]:=dfW
set_option maxRecDepth 20000 in
theorem df100 (l:List Int) (x:Sr) (hl:byt l) (y1:Sr) (y3:Sr) (y4:Sr) (y8:Sr) (k0:Nat) (o1:List Stp) (P2:O1 l x 2 true y1) (y2:Sr) (to:Int) (PT:PK l y1 3 to y2) (P6:PK l y2 6 (k0:Nat) y3) (hk0:k0≤5) (hy3:y3.p≤2000) (hT:stU l k0 y3 [aDI to] o1 y4) (ho1:o1.length≤6) (e0:decide ((o1.length:Int)>0)=false) (P24:O1 l y4 24 false y8) (e9:Nat) (he9:e9≤1) (w20:IntKind.i64.wrap (20+(e9:Int))=((20+e9:Nat):Int)):Vs.Fn Tryz.prog F.bP [sB l x] [.ptr (.b 0) 0 0] (.sl 9 (E cS o1)) [some (sB l y8)]:=dfW
set_option maxRecDepth 20000 in
theorem df101 (l:List Int) (x:Sr) (hl:byt l) (y1:Sr) (y3:Sr) (y4:Sr) (y8:Sr) (k0:Nat) (o1:List Stp) (P2:O1 l x 2 true y1) (y2:Sr) (to:Int) (PT:PK l y1 3 to y2) (P6:PK l y2 6 (k0:Nat) y3) (hk0:k0≤5) (hy3:y3.p≤2000) (hT:stU l k0 y3 [aDI to] o1 y4) (ho1:o1.length≤6) (e0:decide ((o1.length:Int)>0)=false) (P24:O1 l y4 24 true y8) (e9:Nat) (he9:e9≤1) (w20:IntKind.i64.wrap (20+(e9:Int))=((20+e9:Nat):Int)) (y9:Sr) (P2b:PK l y8 2 (e9:Nat) y9):Vs.Fn Tryz.prog F.bP [sB l x] [.ptr (.b 0) 0 0] (.sl 9 (E cS (qP (20+e9)))) [some (sB l y9)]:=dfW
set_option maxRecDepth 20000 in
theorem df110 (l:List Int) (x:Sr) (hl:byt l) (y1:Sr) (y3:Sr) (y4:Sr) (y8:Sr) (k0:Nat) (o1:List Stp) (P2:O1 l x 2 true y1) (y2:Sr) (to:Int) (PT:PK l y1 3 to y2) (P6:PK l y2 6 (k0:Nat) y3) (hk0:k0≤5) (hy3:y3.p≤2000) (hT:stU l k0 y3 [aDI to] o1 y4) (ho1:o1.length≤6) (e0:decide ((o1.length:Int)>0)=true) (y5:Sr) (P10:O1 l y4 10 false y5) (P24:O1 l y5 24 false y8) (e9:Nat) (he9:e9≤1) (w20:IntKind.i64.wrap (20+(e9:Int))=((20+e9:Nat):Int)):Vs.Fn Tryz.prog F.bP [sB l x] [.ptr (.b 0) 0 0] (.sl 9 (E cS o1)) [some (sB l y8)]:=dfW
set_option maxRecDepth 20000 in
theorem df111 (l:List Int) (x:Sr) (hl:byt l) (y1:Sr) (y3:Sr) (y4:Sr) (y8:Sr) (k0:Nat) (o1:List Stp) (P2:O1 l x 2 true y1) (y2:Sr) (to:Int) (PT:PK l y1 3 to y2) (P6:PK l y2 6 (k0:Nat) y3) (hk0:k0≤5) (hy3:y3.p≤2000) (hT:stU l k0 y3 [aDI to] o1 y4) (ho1:o1.length≤6) (e0:decide ((o1.length:Int)>0)=true) (y5:Sr) (P10:O1 l y4 10 false y5) (P24:O1 l y5 24 true y8) (e9:Nat) (he9:e9≤1) (w20:IntKind.i64.wrap (20+(e9:Int))=((20+e9:Nat):Int)) (y9:Sr) (P2b:PK l y8 2 (e9:Nat) y9):Vs.Fn Tryz.prog F.bP [sB l x] [.ptr (.b 0) 0 0] (.sl 9 (E cS (qP (20+e9)))) [some (sB l y9)]:=dfW
set_option maxRecDepth 20000 in
theorem df120 (l:List Int) (x:Sr) (hl:byt l) (y1:Sr) (y3:Sr) (y4:Sr) (y8:Sr) (k0:Nat) (o1:List Stp) (P2:O1 l x 2 true y1) (y2:Sr) (to:Int) (PT:PK l y1 3 to y2) (P6:PK l y2 6 (k0:Nat) y3) (hk0:k0≤5) (hy3:y3.p≤2000) (hT:stU l k0 y3 [aDI to] o1 y4) (ho1:o1.length≤6) (e0:decide ((o1.length:Int)>0)=true) (y5:Sr) (P10:O1 l y4 10 true y5) (y6:Sr) (y7:Sr) (i9:Nat) (hi9:i9<o1.length) (s9:Stp) (PN:PK l y5 (o1.length:Nat) (i9:Nat) y6) (SP:Vs.Fn Tryz.prog F.nO [sB l y6,.arr 9 (E cS o1) false] [.ptr (.b 0) 0 0,.ptr (.b 1) i9 0] (.tup []) [some (sB l y7),some (.arr 9 (E cS (o1.set i9 s9)) false)]) (P24:O1 l y7 24 false y8) (e9:Nat) (he9:e9≤1) (w20:IntKind.i64.wrap (20+(e9:Int))=((20+e9:Nat):Int)):Vs.Fn Tryz.prog F.bP [sB l x] [.ptr (.b 0) 0 0] (.sl 9 (E cS (o1.set i9 s9))) [some (sB l y8)]:=dfW
set_option maxRecDepth 20000 in
theorem df121 (l:List Int) (x:Sr) (hl:byt l) (y1:Sr) (y3:Sr) (y4:Sr) (y8:Sr) (k0:Nat) (o1:List Stp) (P2:O1 l x 2 true y1) (y2:Sr) (to:Int) (PT:PK l y1 3 to y2) (P6:PK l y2 6 (k0:Nat) y3) (hk0:k0≤5) (hy3:y3.p≤2000) (hT:stU l k0 y3 [aDI to] o1 y4) (ho1:o1.length≤6) (e0:decide ((o1.length:Int)>0)=true) (y5:Sr) (P10:O1 l y4 10 true y5) (y6:Sr) (y7:Sr) (i9:Nat) (hi9:i9<o1.length) (s9:Stp) (PN:PK l y5 (o1.length:Nat) (i9:Nat) y6) (SP:Vs.Fn Tryz.prog F.nO [sB l y6,.arr 9 (E cS o1) false] [.ptr (.b 0) 0 0,.ptr (.b 1) i9 0] (.tup []) [some (sB l y7),some (.arr 9 (E cS (o1.set i9 s9)) false)]) (P24:O1 l y7 24 true y8) (e9:Nat) (he9:e9≤1) (w20:IntKind.i64.wrap (20+(e9:Int))=((20+e9:Nat):Int)) (y9:Sr) (P2b:PK l y8 2 (e9:Nat) y9):Vs.Fn Tryz.prog F.bP [sB l x] [.ptr (.b 0) 0 0] (.sl 9 (E cS (qP (20+e9)))) [some (sB l y9)]:=dfW
end
set_option maxRecDepth 20000 in
theorem aJx (l:List Int) (x:Sr) (hl:byt l) (hp:x.p≤1000):∃fs z,okZ fs∧fs.length≤21∧z.p≤x.p+400∧Vs.Fn Tryz.prog F.bP [sB l x] [.ptr (.b 0) 0 0] (.sl 9 (E cS fs)) [some (sB l z)]:=by
 have hcs:∀y:Stp,cS y=[.v (.int .i64 y.kind),.v (.int .i64 y.a),.v (.int .i64 y.b),.v (.int .i64 y.to),.v (.int .i64 y.f0),.v (.int .i64 y.f1),.v (.int .i64 y.s0),.v (.int .i64 y.s1),.v (.string y.text)]:=fun _=>rfl;clear hcs;have P2:=one l x hl 2 (by omega);have q2:=bD l x 2;obtain⟨b2,hb2⟩:∃b,(pkV l x 2==0)=b:=⟨_,rfl⟩;rw[hb2] at P2;generalize pkS l x 2=y1 at *
 cases b2
 ·have P6:=pick l y1 hl 6 (by omega);have q6:=bD l y1 6;have v6:=dI hl y1 (n:=6) (by omega);obtain⟨k0,hk0⟩:∃k:Nat,pkV l y1 6=k:=⟨(pkV l y1 6).toNat,by omega⟩;rw[hk0] at P6 v6;generalize pkS l y1 6=y3 at *
  obtain⟨o1,y4,⟨hy4,ho1,hz1⟩,hT⟩:=aFx hl k0 y3 [] (by omega) (fun s hs=>by cases hs);simp only[List.length_nil] at ho1;by_cases h0:o1.length=0
  ·have e0:decide ((o1.length:Int)>0)=false:=decide_eq_false (by omega);have P24:=one l y4 hl 24 (by omega);have q24:=bD l y4 24;obtain⟨b24,hb24⟩:∃b,(pkV l y4 24==0)=b:=⟨_,rfl⟩;rw[hb24] at P24;generalize pkS l y4 24=y8 at *
   cases b24
   ·refine⟨o1,y8,hz1,by(try simp only[List.length_set]);omega,by omega,?_⟩;exact df000 l x hl y1 y3 y4 y8 k0 o1 P2 P6 (by omega) (by omega) hT (by omega) e0 P24 0 (by omega) rfl
   ·have P2b:=pick l y8 hl 2 (by omega);have q2b:=bD l y8 2;have v2b:=dI hl y8 (n:=2) (by omega);obtain⟨e9,he9⟩:∃k:Nat,pkV l y8 2=k:=⟨(pkV l y8 2).toNat,by omega⟩;rw[he9] at P2b v2b;generalize pkS l y8 2=y9 at *
    have w20:IntKind.i64.wrap (20+(e9:Int))=((20+e9:Nat):Int):=by rw[aR (by omega) (by omega)];omega
    refine⟨qP (20+e9),y9,yA _,by rw[qO];omega,by omega,?_⟩;exact df001 l x hl y1 y3 y4 y8 k0 o1 P2 P6 (by omega) (by omega) hT (by omega) e0 P24 e9 (by omega) w20 y9 P2b
  ·have e0:decide ((o1.length:Int)>0)=true:=decide_eq_true (by omega);have P10:=one l y4 hl 10 (by omega);have q10:=bD l y4 10;obtain⟨b10,hb10⟩:∃b,(pkV l y4 10==0)=b:=⟨_,rfl⟩;rw[hb10] at P10;generalize pkS l y4 10=y5 at *
   cases b10
   ·have P24:=one l y5 hl 24 (by omega);have q24:=bD l y5 24;obtain⟨b24,hb24⟩:∃b,(pkV l y5 24==0)=b:=⟨_,rfl⟩;rw[hb24] at P24;generalize pkS l y5 24=y8 at *
    cases b24
    ·refine⟨o1,y8,hz1,by(try simp only[List.length_set]);omega,by omega,?_⟩;exact df010 l x hl y1 y3 y4 y8 k0 o1 P2 P6 (by omega) (by omega) hT (by omega) e0 y5 P10 P24 0 (by omega) rfl
    ·have P2b:=pick l y8 hl 2 (by omega);have q2b:=bD l y8 2;have v2b:=dI hl y8 (n:=2) (by omega);obtain⟨e9,he9⟩:∃k:Nat,pkV l y8 2=k:=⟨(pkV l y8 2).toNat,by omega⟩;rw[he9] at P2b v2b;generalize pkS l y8 2=y9 at *
     have w20:IntKind.i64.wrap (20+(e9:Int))=((20+e9:Nat):Int):=by rw[aR (by omega) (by omega)];omega
     refine⟨qP (20+e9),y9,yA _,by rw[qO];omega,by omega,?_⟩;exact df011 l x hl y1 y3 y4 y8 k0 o1 P2 P6 (by omega) (by omega) hT (by omega) e0 y5 P10 P24 e9 (by omega) w20 y9 P2b
   ·have PN:=pick l y5 hl (o1.length:Nat) (by omega);have qn:=bD l y5 (o1.length:Nat);have vn:=dI hl y5 (n:=(o1.length:Nat)) (by omega);obtain⟨i9,hi9⟩:∃k:Nat,pkV l y5 (o1.length:Nat)=k:=⟨(pkV l y5 (o1.length:Nat)).toNat,by omega⟩;rw[hi9] at PN vn;generalize pkS l y5 (o1.length:Nat)=y6 at *
    obtain⟨s9,y7,hy7,hs9,SP⟩:=aLo l y6 hl (by omega) o1 i9 (by omega) (by omega) (hz1 _ (List.getElem_mem _));have P24:=one l y7 hl 24 (by omega);have q24:=bD l y7 24;obtain⟨b24,hb24⟩:∃b,(pkV l y7 24==0)=b:=⟨_,rfl⟩;rw[hb24] at P24;generalize pkS l y7 24=y8 at *
    cases b24
    ·refine⟨(o1.set i9 s9),y8,aGD hz1 hs9,by(try simp only[List.length_set]);omega,by omega,?_⟩;exact df020 l x hl y1 y3 y4 y8 k0 o1 P2 P6 (by omega) (by omega) hT (by omega) e0 y5 P10 y6 y7 i9 (by omega) s9 PN SP P24 0 (by omega) rfl
    ·have P2b:=pick l y8 hl 2 (by omega);have q2b:=bD l y8 2;have v2b:=dI hl y8 (n:=2) (by omega);obtain⟨e9,he9⟩:∃k:Nat,pkV l y8 2=k:=⟨(pkV l y8 2).toNat,by omega⟩;rw[he9] at P2b v2b;generalize pkS l y8 2=y9 at *
     have w20:IntKind.i64.wrap (20+(e9:Int))=((20+e9:Nat):Int):=by rw[aR (by omega) (by omega)];omega
     refine⟨qP (20+e9),y9,yA _,by rw[qO];omega,by omega,?_⟩;exact df021 l x hl y1 y3 y4 y8 k0 o1 P2 P6 (by omega) (by omega) hT (by omega) e0 y5 P10 y6 y7 i9 (by omega) s9 PN SP P24 e9 (by omega) w20 y9 P2b
 ·have PT:=pick l y1 hl 3 (by omega);have qt:=bD l y1 3;generalize pkV l y1 3=to at *
  generalize pkS l y1 3=y2 at *
  have P6:=pick l y2 hl 6 (by omega);have q6:=bD l y2 6;have v6:=dI hl y2 (n:=6) (by omega);obtain⟨k0,hk0⟩:∃k:Nat,pkV l y2 6=k:=⟨(pkV l y2 6).toNat,by omega⟩;rw[hk0] at P6 v6;generalize pkS l y2 6=y3 at *
  obtain⟨o1,y4,⟨hy4,ho1,hz1⟩,hT⟩:=aFx hl k0 y3 [aDI to] (by omega) (fun s hs=>by rw[List.mem_singleton.1 hs];exact Nat.zero_le _);simp only[List.length_cons,List.length_nil] at ho1;by_cases h0:o1.length=0
  ·have e0:decide ((o1.length:Int)>0)=false:=decide_eq_false (by omega);have P24:=one l y4 hl 24 (by omega);have q24:=bD l y4 24;obtain⟨b24,hb24⟩:∃b,(pkV l y4 24==0)=b:=⟨_,rfl⟩;rw[hb24] at P24;generalize pkS l y4 24=y8 at *
   cases b24
   ·refine⟨o1,y8,hz1,by(try simp only[List.length_set]);omega,by omega,?_⟩;exact df100 l x hl y1 y3 y4 y8 k0 o1 P2 y2 to PT P6 (by omega) (by omega) hT (by omega) e0 P24 0 (by omega) rfl
   ·have P2b:=pick l y8 hl 2 (by omega);have q2b:=bD l y8 2;have v2b:=dI hl y8 (n:=2) (by omega);obtain⟨e9,he9⟩:∃k:Nat,pkV l y8 2=k:=⟨(pkV l y8 2).toNat,by omega⟩;rw[he9] at P2b v2b;generalize pkS l y8 2=y9 at *
    have w20:IntKind.i64.wrap (20+(e9:Int))=((20+e9:Nat):Int):=by rw[aR (by omega) (by omega)];omega
    refine⟨qP (20+e9),y9,yA _,by rw[qO];omega,by omega,?_⟩;exact df101 l x hl y1 y3 y4 y8 k0 o1 P2 y2 to PT P6 (by omega) (by omega) hT (by omega) e0 P24 e9 (by omega) w20 y9 P2b
  ·have e0:decide ((o1.length:Int)>0)=true:=decide_eq_true (by omega);have P10:=one l y4 hl 10 (by omega);have q10:=bD l y4 10;obtain⟨b10,hb10⟩:∃b,(pkV l y4 10==0)=b:=⟨_,rfl⟩;rw[hb10] at P10;generalize pkS l y4 10=y5 at *
   cases b10
   ·have P24:=one l y5 hl 24 (by omega);have q24:=bD l y5 24;obtain⟨b24,hb24⟩:∃b,(pkV l y5 24==0)=b:=⟨_,rfl⟩;rw[hb24] at P24;generalize pkS l y5 24=y8 at *
    cases b24
    ·refine⟨o1,y8,hz1,by(try simp only[List.length_set]);omega,by omega,?_⟩;exact df110 l x hl y1 y3 y4 y8 k0 o1 P2 y2 to PT P6 (by omega) (by omega) hT (by omega) e0 y5 P10 P24 0 (by omega) rfl
    ·have P2b:=pick l y8 hl 2 (by omega);have q2b:=bD l y8 2;have v2b:=dI hl y8 (n:=2) (by omega);obtain⟨e9,he9⟩:∃k:Nat,pkV l y8 2=k:=⟨(pkV l y8 2).toNat,by omega⟩;rw[he9] at P2b v2b;generalize pkS l y8 2=y9 at *
     have w20:IntKind.i64.wrap (20+(e9:Int))=((20+e9:Nat):Int):=by rw[aR (by omega) (by omega)];omega
     refine⟨qP (20+e9),y9,yA _,by rw[qO];omega,by omega,?_⟩;exact df111 l x hl y1 y3 y4 y8 k0 o1 P2 y2 to PT P6 (by omega) (by omega) hT (by omega) e0 y5 P10 P24 e9 (by omega) w20 y9 P2b
   ·have PN:=pick l y5 hl (o1.length:Nat) (by omega);have qn:=bD l y5 (o1.length:Nat);have vn:=dI hl y5 (n:=(o1.length:Nat)) (by omega);obtain⟨i9,hi9⟩:∃k:Nat,pkV l y5 (o1.length:Nat)=k:=⟨(pkV l y5 (o1.length:Nat)).toNat,by omega⟩;rw[hi9] at PN vn;generalize pkS l y5 (o1.length:Nat)=y6 at *
    obtain⟨s9,y7,hy7,hs9,SP⟩:=aLo l y6 hl (by omega) o1 i9 (by omega) (by omega) (hz1 _ (List.getElem_mem _));have P24:=one l y7 hl 24 (by omega);have q24:=bD l y7 24;obtain⟨b24,hb24⟩:∃b,(pkV l y7 24==0)=b:=⟨_,rfl⟩;rw[hb24] at P24;generalize pkS l y7 24=y8 at *
    cases b24
    ·refine⟨(o1.set i9 s9),y8,aGD hz1 hs9,by(try simp only[List.length_set]);omega,by omega,?_⟩;exact df120 l x hl y1 y3 y4 y8 k0 o1 P2 y2 to PT P6 (by omega) (by omega) hT (by omega) e0 y5 P10 y6 y7 i9 (by omega) s9 PN SP P24 0 (by omega) rfl
    ·have P2b:=pick l y8 hl 2 (by omega);have q2b:=bD l y8 2;have v2b:=dI hl y8 (n:=2) (by omega);obtain⟨e9,he9⟩:∃k:Nat,pkV l y8 2=k:=⟨(pkV l y8 2).toNat,by omega⟩;rw[he9] at P2b v2b;generalize pkS l y8 2=y9 at *
     have w20:IntKind.i64.wrap (20+(e9:Int))=((20+e9:Nat):Int):=by rw[aR (by omega) (by omega)];omega
     refine⟨qP (20+e9),y9,yA _,by rw[qO];omega,by omega,?_⟩;exact df121 l x hl y1 y3 y4 y8 k0 o1 P2 y2 to PT P6 (by omega) (by omega) hT (by omega) e0 y5 P10 y6 y7 i9 (by omega) s9 PN SP P24 e9 (by omega) w20 y9 P2b
end
section
variable [Vs.Envs]
attribute [local irreducible] Vs.Fn cZ aW dB dC l03 chB rk cd3 chI stp aZ
def fwS (x:Spc):Stp:=⟨5,0,0,1,x.w0,x.w1,0,0,x.text⟩
def fwO (x:Spc) (n:Int):Stp:=⟨1,n,0,2,x.g0,x.g1,0,0,⟨#[]⟩⟩
def fwL (x:Spc):Stp:=⟨7,2,0,0,x.g0,x.g1,x.s0,x.s1,⟨#[]⟩⟩
def gK (x:Spc):List Stp:=if dR x.text then[fwO x 0,fwL x] else[fwS x,fwO x 1,fwL x]
theorem aCn (x:Spc):(gK x).length≤3:=by unfold gK;split<;>simp
attribute [local go_sem] List.replicate_succ List.replicate_zero List.flatten_cons List.flatten_nil List.cons_append List.nil_append List.set_cons_zero List.set_cons_succ List.length_cons List.length_nil List.length_set List.length_append in
set_option maxRecDepth 20000 in
theorem aGL (x:Spc):Fz F.qD [.ro (cP x)] (.sl 9 (E cS (gK x))):=by
 cases hn:dR x.text
 ·have hX:gK x=[fwS x,fwO x 1,fwL x]:=by simp[gK,hn]
  rw[hX];unfold dR at hn;refine fn0 Cd.s_l16Flow_k fun X=>?_
  repeat' first|simp -dsimp only[go_sem,cP,hn]|apply Br.mk<;>intro h<;>try simp -dsimp only[h]|refine aC ?_|fail
  all_goals(exact⟨_,_,rfl,rfl⟩)
 ·have hX:gK x=[fwO x 0,fwL x]:=by simp[gK,hn]
  rw[hX];unfold dR at hn;refine fn0 Cd.s_l16Flow_k fun X=>?_
  repeat' first|simp -dsimp only[go_sem,cP,hn]|apply Br.mk<;>intro h<;>try simp -dsimp only[h]|refine aC ?_|fail
  all_goals(exact⟨_,_,rfl,rfl⟩)
attribute [local go_sem] List.replicate_succ List.replicate_zero List.flatten_cons List.flatten_nil List.cons_append List.nil_append List.set_cons_zero List.set_cons_succ List.length_cons List.length_nil List.length_set List.length_append in
set_option maxRecDepth 20000 in
theorem aCP (x:Spc) (hs:x.text.size≤1048576) (hk:lN x 20=true):Fz F.uJ [.agg (cP x)] (.tup [.sl 9 (E cS (gK x)),.v (.int .i64 0)]):=by
 have i20:inB 20 1 20=true:=by decide
 cases hn:dR x.text
 ·have hX:gK x=[fwS x,fwO x 1,fwL x]:=by simp[gK,hn]
  rw[hX];unfold dR at hn;refine fn0 Cd.i_FlowFor_k fun X=>?_;simp -dsimp only[go_sem,cP,hn]
  repeat' first|simp -dsimp only[go_sem,cP,hn,hk,i20,Bool.and_true]|apply Br.mk<;>intro h<;>try simp -dsimp only[h]|refine aA.c (by first|exact mY x _ hs) ?_|refine aC ?_|fail
  all_goals(exact⟨_,_,rfl,rfl⟩)
 ·have hX:gK x=[fwO x 0,fwL x]:=by simp[gK,hn]
  rw[hX];unfold dR at hn;refine fn0 Cd.i_FlowFor_k fun X=>?_;simp -dsimp only[go_sem,cP,hn]
  repeat' first|simp -dsimp only[go_sem,cP,hn,hk,i20,Bool.and_true]|apply Br.mk<;>intro h<;>try simp -dsimp only[h]|refine aA.c (by first|exact mY x _ hs) ?_|refine aC ?_|fail
  all_goals(exact⟨_,_,rfl,rfl⟩)
end
section
variable [Vs.Envs]
attribute [local irreducible] Vs.Fn wO dsC
theorem aEb {c:List Int} (h:crd c):gM c=true∧c.length=5:=by
 obtain⟨a,n,m,ha,hn,hm,rfl⟩:=h;have h1:∀k:Nat,k<100→(ptN 2 (k:Int)).all (fun x=>inB x 0 4095)=true:=by decide +kernel
 have h2:∀k:Nat,k<31→(ptN 2 (-(k:Int))).all (fun x=>inB x 0 4095)=true:=by decide +kernel
 have e1:(ptN 2 n).all (fun x=>inB x 0 4095)=true:=by
  have:=h1 n.toNat (by omega)
  rwa [Int.toNat_of_nonneg hn.1] at this
 have e2:(ptN 2 m).all (fun x=>inB x 0 4095)=true:=by
  by_cases h0:0≤m
  ·have:=h1 m.toNat (by omega)
   rwa [Int.toNat_of_nonneg h0] at this
  ·have:=h2 (-m).toNat (by omega)
   rwa [Int.toNat_of_nonneg (by omega),Int.neg_neg] at this
 have e0:inB a 0 4095=true:=by rcases ha with rfl|rfl|rfl<;>decide +kernel
 have hl:(a::(ptN 2 n++ptN 2 m)).length=5:=by simp[aFJ]
 refine⟨?_,hl⟩;unfold gM;rw[hl,List.all_cons,List.all_append,e0,e1,e2];rfl
theorem aJB {o:List (List Int)} (h:∀c,c∈o→crd c) (hl:o.length≤40):okD 5 o:=by
 refine⟨?_,fun c hc=>(aEb (h c hc)).2⟩;simp only[aS,Bool.and_eq_true,List.all_eq_true,decide_eq_true_eq];refine⟨fun c hc=>⟨(aEb (h c hc)).1,?_⟩,hl⟩;have h0:0<o.length:=List.length_pos_of_mem hc;have hm0:o.getD 0 []∈o:=by rw[show o.getD 0 []=o[0] by simp[List.getD,h0]];exact List.getElem_mem _
 rw[(aEb (h c hc)).2,(aEb (h _ hm0)).2]
end
end Go.Proofs.YthbnjmgjhonfbaaGreat
