/- A step done by the reference. -/
import Derived.Test.YthbnjmgjhonfbaaGreatTwVm
import Derived.Test.YthbnjmgjhonfbaaGreatTwVn
set_option linter.all false
set_option maxHeartbeats 8000000
namespace Go.Proofs.YthbnjmgjhonfbaaGreat
open Go.Vs
section
variable [Vs.Envs]
attribute [local irreducible] Vs.Fn cZ aW dB dC l03 chB rk cd3 chI stp aZ
theorem vC {k:Nat}{S:Nat→Prop}{w:World}{v:Value} (h:RC S w (.v (.slice none 0 0)) v):RC S w (.sl k []) v:=by
 cases h;exact RC.sl k [] none 0 0 0 (fun _=>undef) (fun h=>absurd rfl h) (fun i j h=>by simp at h) (fun i j h=>by simp at h) (fun i j h=>by simp at h) (fun i h=>by simp at h) ⟨Nat.le_refl _,by decide⟩
theorem aAz {P:Program}{f:FuncId}{hin:List Blk}{args args':List AV}{r:AV}{hout:List (Option Blk)} (hl:args.length=args'.length)
  (h:∀(S:Nat→Prop) (w:World) (j:Nat) (v:Value),j<args.length→(∀ρ κ hh,RV S w ρ κ hh (args.getD j .junk) v→RV S w ρ κ hh (args'.getD j .junk) v)) (hf:Vs.Fn P f hin args' r hout):Vs.Fn P f hin args r hout:=by
 unfold Vs.Fn at hf⊢;exact⟨hf.1,fun S w ρ κ vs h1 h2 h3 h4=>hf.2 S w ρ κ vs h1 h2 (h3.trans hl) fun j hj=>h S w j _ (by omega) ρ κ _ (h4 j (by omega))⟩
theorem aLJ {S:Nat→Prop}{w:World}{x:AV}{k:Nat}{v:Value}{ρ:Vs.Name→Option Nat}{κ:Vs.Name→Nat}{hh:Vs.Name→Option Blk} (h:RV S w ρ κ hh (.ro [x,.v (.slice none 0 0)]) v):RV S w ρ κ hh (.ro [x,.sl k []]) v:=by
 have h:=pU h;refine .clo ?_;generalize hc:[x,AV.v (.slice none 0 0)]=c at h;cases h with
 | ro c y off xs hS h1 h2 h3 =>
  subst hc;refine .ro _ y off xs hS h1 h2 fun j hj=>?_
  match j,hj with
  |0,_=>exact h3 0 (by simp)
  |1,_=>exact vC (h3 1 (by simp))
def gA (n:Vs.Name) (i:Nat):AV:=if i=0 then .v (.slice none 0 0) else .loc n 0 i
def gH (n:Vs.Name) (rows:List (List AV)) (i:Nat):List (Vs.Name×Blk):=if i=0 then[] else[(n,.arr 1 rows false)]
attribute [local go_sem] Int.reduceBEq Int.reduceBNe cC cTs aH List.replicate_succ List.replicate_zero List.flatten_cons List.flatten_nil List.cons_append List.nil_append List.set_cons_zero List.set_cons_succ List.length_cons List.length_nil List.length_set List.mem_singleton List.mem_cons List.not_mem_nil or_false false_or Vs.Name.t.injEq in
theorem aKM (o:Off) (ho:yS o) (ht0:0<o.trays.length) (hm0:o.totals.length=0):Vs.Fn Tryz.prog F.qU [] [.ro (cO o)] (.agg [.loc (.b 0) 0 o.trays.length,.v (.slice none 0 0)]) [some (.arr 1 (E cD o.trays) false)]:=by
 have hn:=ho.1.1;have hm:=ho.2.1;refine fn1 Cd.s_l15Own_k [.t 27 0] [.arr 1 (E cD o.trays) false] fun X=>?_;unfold Cd.qU
 repeat' first|simp -dsimp only[go_sem,cO,cD]|apply Br.mk<;>intro h<;>try simp -dsimp only[h]|refine aC ?_|fail
 refine aN.at dM (X:={i:Nat // i≤o.trays.length}) (fun i=>[(4,.v (.int .i64 (i.1:Nat)))]) (fun i=>(.t 3 0,.var [gA (.t 27 0) i.1,.v (.slice none 0 0)] false)::gH (.t 27 0) (E cD (o.trays.take i.1)) i.1) (fun i=>o.trays.length-i.1) ⟨0,by omega⟩ ?_ ?_
 ·simp[Vs.LeL,Vs.look,Vs.aB,Vs.aP,Vs.aK,Vs.hset,Vs.aL,gA,gH]
 ·rintro⟨i,hi⟩
  try dsimp only at hi
  by_cases hlt:i<o.trays.length
  ·have ht:decide ((i:Int)<(o.trays.length:Int))=true:=decide_eq_true (by omega);have hw:=aG hlt (by omega);have hat:=aJN hlt;have hrow:=aEj hlt;have hal:(E cD (o.trays.take i)).length=i:=by rw[aH];simp;omega
   have hal2:(o.trays.take i).length=i:=by simp;omega
   have CP:=aBC o.trays[i] (ho.1.2 _ (List.getElem_mem hlt));by_cases hi0:i=0
   ·have hA:gA (.t 27 0) i=.v (.slice none 0 0):=by simp[gA,hi0]
    have hH:gH (.t 27 0) (E cD (o.trays.take i)) i=[]:=by simp[gH,hi0]
    have hr0:E cD (o.trays.take i)=[]:=by rw[hi0];rfl
    rw[hr0,List.nil_append] at hrow;rw[hA,hH];simp -dsimp only[go_sem,ht,hat,cO,cD]
    repeat' first|simp -dsimp only[go_sem,ht,hat,hw,hrow,cO,cD]|apply Br.mk<;>intro h<;>try simp -dsimp only[h]|refine aA.c (by first|exact CP) ?_|refine aC ?_|fail
    all_goals first|omega|(exact⟨⟨i+1,by omega⟩,by simp[Vs.LeL,Vs.look,Vs.aB,Vs.aP,Vs.aK,Vs.hset,Vs.aL,gA,gH,hrow,hi0],by simp only;omega⟩)
   ·have hA:gA (.t 27 0) i=.loc (.t 27 0) 0 i:=by simp[gA,hi0]
    have hH:gH (.t 27 0) (E cD (o.trays.take i)) i=[(.t 27 0,.arr 1 (E cD (o.trays.take i)) false)]:=by simp[gH,hi0]
    rw[hA,hH];simp -dsimp only[go_sem,ht,hat,cO,cD]
    repeat' first|simp -dsimp only[go_sem,ht,hat,hw,hrow,hal,hal2,cO,cD]|apply Br.mk<;>intro h<;>try simp -dsimp only[h]|refine aA.c (by first|exact CP) ?_|refine aC ?_|fail
    all_goals first|omega|(exact⟨⟨i+1,by omega⟩,by simp[Vs.LeL,Vs.look,Vs.aB,Vs.aP,Vs.aK,Vs.hset,Vs.aL,gA,gH,hrow,hi0],by simp only;omega⟩)
  ·obtain rfl:i=o.trays.length:=by omega
   have ht:decide ((o.trays.length:Int)<(o.trays.length:Int))=false:=by simp
   have hA:gA (.t 27 0) o.trays.length=.loc (.t 27 0) 0 o.trays.length:=by unfold gA;rw[if_neg (by omega)]
   have hH:gH (.t 27 0) (E cD (o.trays.take o.trays.length)) o.trays.length=[(.t 27 0,.arr 1 (E cD (o.trays.take o.trays.length)) false)]:=by unfold gH;rw[if_neg (by omega)]
   rw[hA,hH];simp -dsimp only[go_sem,ht,cO,cD];refine And.intro ?_ (fun h=>absurd rfl h);refine aN.at dM (X:={i:Nat // i≤o.totals.length}) (fun i=>[(5,.v (.int .i64 (i.1:Nat)))]) (fun i=>(.t 3 0,.var [.loc (.t 27 0) 0 o.trays.length,gA (.t 50 0) i.1] false)::gH (.t 50 0) (E cTs (o.totals.take i.1)) i.1) (fun i=>o.totals.length-i.1) ⟨0,by omega⟩ ?_ ?_
   ·simp[Vs.LeL,Vs.look,Vs.aB,Vs.aP,Vs.aK,Vs.hset,Vs.aL,gA,gH]
   ·rintro⟨i,hi⟩
    try dsimp only at hi
    by_cases hlt:i<o.totals.length
    ·have ht:decide ((i:Int)<(o.totals.length:Int))=true:=decide_eq_true (by omega);have hw:=aG hlt (by omega);have hat:=aCB hlt;have hrow:=aEi hlt;have hal:(E cTs (o.totals.take i)).length=i:=by rw[aH];simp;omega
     have hal2:(o.totals.take i).length=i:=by simp;omega
     have hs:=(ho.2.2 _ (List.getElem_mem hlt)).1;by_cases hi0:i=0
     ·have hA:gA (.t 50 0) i=.v (.slice none 0 0):=by simp[gA,hi0]
      have hH:gH (.t 50 0) (E cTs (o.totals.take i)) i=[]:=by simp[gH,hi0]
      have hr0:E cTs (o.totals.take i)=[]:=by rw[hi0];rfl
      rw[hr0,List.nil_append] at hrow;rw[hA,hH];simp -dsimp only[go_sem,ht,hat,cO,cD]
      repeat' first|simp -dsimp only[go_sem,ht,hat,hw,hrow,cO,cD]|apply Br.mk<;>intro h<;>try simp -dsimp only[h]|refine aC ?_|fail
      all_goals first|omega|(exact⟨⟨i+1,by omega⟩,by simp[Vs.LeL,Vs.look,Vs.aB,Vs.aP,Vs.aK,Vs.hset,Vs.aL,gA,gH,hrow,hi0],by simp only;omega⟩)
     ·have hA:gA (.t 50 0) i=.loc (.t 50 0) 0 i:=by simp[gA,hi0]
      have hH:gH (.t 50 0) (E cTs (o.totals.take i)) i=[(.t 50 0,.arr 1 (E cTs (o.totals.take i)) false)]:=by simp[gH,hi0]
      rw[hA,hH];simp -dsimp only[go_sem,ht,hat,cO,cD]
      repeat' first|simp -dsimp only[go_sem,ht,hat,hw,hrow,hal,hal2,cO,cD]|apply Br.mk<;>intro h<;>try simp -dsimp only[h]|refine aC ?_|fail
      all_goals first|omega|(exact⟨⟨i+1,by omega⟩,by simp[Vs.LeL,Vs.look,Vs.aB,Vs.aP,Vs.aK,Vs.hset,Vs.aL,gA,gH,hrow,hi0],by simp only;omega⟩)
    ·obtain rfl:i=o.totals.length:=by omega
     have ht:decide ((o.totals.length:Int)<(o.totals.length:Int))=false:=by simp
     have ht1:(E cD (o.trays.take o.trays.length))=E cD o.trays:=by rw[List.take_length]
     have hA:gA (.t 50 0) o.totals.length=.v (.slice none 0 0):=by simp[gA,hm0]
     have hH:gH (.t 50 0) (E cTs (o.totals.take o.totals.length)) o.totals.length=[]:=by simp[gH,hm0]
     rw[hA,hH]
     repeat' first|simp -dsimp only[go_sem,ht,ht1,cO,cD]|apply Br.mk<;>intro h<;>try simp -dsimp only[h]|refine And.intro ?_ (fun h=>absurd rfl h)|refine aC ?_|fail
     all_goals first|omega|exact⟨_,_,rfl,rfl⟩|exact⟨⟨_,_,rfl,rfl⟩,fun h=>h rfl⟩
end
section
variable [Vs.Envs]
attribute [local irreducible] Vs.Fn bG mgC gF mtC bQ sZ mat zL dkC dkL iX kU dP wO cZ aW dB dC l03 chB rk cd3 chI stp aZ
open Go.Vs.Q in
def CdV.l15Do:aD:=s [mi 4 0] [0,1]<|.seq (s [m 9 1,nc 10 9,fa 11 0 10,lf 12 1 11,en 13 12 7] [0,1,13]<|.cond 13 (.seq (s [m 14 0,nc 15 14,fa 16 1 15,lf 17 1 16,ln 18 17,o 19 (.bin .geq 18 (k 20))] [0,1,19]<|.cond 19 (s [mi 4 5] [4]<|.ret) .skip)<|r [m 21 0,nc 22 21,fa 23 0 22,lf 24 1 23,m 25 1,nc 26 25,fa 27 1 26,lf
 28 1 27,ix 29 1 24 28,lf 30 1 29,m 31 1,nc 32 31,fa 33 4 32,lt 34 2 33,m 35 1,nc 36 35,fa 37 6 36,lt 38 2 37,c 39 F.qF [30,34,38],m 20 39,ex 40 20 0,ex 41 20 1,m 5 40,m 6 41] [0,5,6] [21,23,24,22,25,26,27,28,29,30,31,32,33,34,35,36,37,38,39,20,40,41,5]<|.seq (s [m 42 6,en 43 42 0]
 [0,5,6,43]<|.cond 43 (.region [m 44 0,m 45 0,nc 46 45,fa 47 1 46,lf 48 1 47,m 49 5,o 50 (.bslice 1 1 [.v (.slice none 0 0)] [(0,49)]),o 51 (.append 1 24 48 50),nc 52 44,fa 53 1 52,⟨none,.store 1 53 51,none⟩] [6] []) .skip)<|s [m 54 6,m 4 54] [4]<|.ret) .skip)<|s [m 56 0,m 57 1,o 58 (.call (.func
 F.bY) [56,57] [0]),m 55 58,ex 59 55 0,ex 60 55 1,m 7 59,m 8 60] [0,1,7,8]<|.seq (s [m 61 8,en 62 61 0] [0,1,7,8,62]<|.cond 62 (.region [m 63 0,nc 64 63,fa 65 0 64,lf 66 1 65,m 67 1,nc 68 67,fa 69 3 68,lf 70 1 69,m 71 7,ix 72 1 66 70,⟨none,.store 1 72 71,none⟩] [8]
 [63,65,66,64,67,68,69,70,71]) .skip)<|s [m 73 8,m 4 73] [4]<|.ret
theorem CdV.l15Do_k:CK 107 Tryz.f107 CdV.l15Do 74 [.tmp 4]:=ck Tryz.func107
attribute [go_sem] CdV.l15Do
theorem aA.borG {P:Program}{f:FuncId}{hin:List Blk}{ys:List AV}{L:List Vs.Name}{d:Option Nat}{σ:St}{B:List Vs.Name}{K:St→Prop}{t:Tag K}{r:AV}{hout:List (Option Blk)} (hfn:Vs.Fn P f hin ys r hout) (hfr:jL (d.getD 0) B.length hout.length σ=true)
  (hK:K ⟨put d (rn (phi B (d.getD 0) hout.length) r) σ.s,xR σ.h B (d.getD 0) hout true L⟩):aA P f hin ys L d σ B K t:=
 ⟨r,hout,true,hfn,fun h=>(by cases h),hfr,hK⟩
attribute [local go_sem] Int.reduceBEq Int.reduceBNe cC cO cFd aH List.replicate_succ List.replicate_zero List.flatten_cons List.flatten_nil List.cons_append List.nil_append List.set_cons_zero List.set_cons_succ List.length_cons List.length_nil List.length_set List.mem_singleton List.mem_cons List.not_mem_nil or_false false_or Vs.Name.t.injEq List.getD_cons_zero List.getD_cons_succ Vs.Name.b.injEq in
theorem aHI (x:Stp) (hz:x.text.size≤1048576) (o:Off) (w:Nat) (ho:okO w o) (hv:dP x (wO o.trays)=true) (he:o.totals.length=0) (h0:stC x o≠0):Vs.Fn Tryz.prog F.u7 [.var [.loc (.b 1) 0 o.trays.length,.v (.slice none 0 0)] false,.arr 1 (E cD o.trays) false] [.ptr (.b 0) 0 0,.ro (cS x)] (.v (.int .i64 (stC x o))) ([.var [.loc (.b 1) 0 o.trays.length,.v (.slice none 0 0)] false,.arr 1 (E cD o.trays) false].map some):=by
 have hso:=jR ho;have hd6:=ho.2.1;have ht20:=ho.2.2.2.1;have hx:=wE ho hv;have ma:=gN hx.a;have mb:=gN hx.b;have ga:=iO hx.a;have gb:=iO hx.b;have gt:=iO hx.to;have a0:=hx.a.1;have a1:=hx.a.2;have t0:=hx.to.1;have t1:=hx.to.2;have hla:(E cD o.trays).length=o.trays.length:=aH _;have hlt:(E cTs o.totals).length=o.totals.length:=aH _;have hk1:(E cD o.trays).take o.trays.length=E cD o.trays:=List.take_of_length_le (by omega);have hk2:(E cTs o.totals).take o.totals.length=E cTs o.totals:=List.take_of_length_le (by omega);by_cases h7:x.kind=7
 ·have e7:(x.kind==7)=true:=beq_iff_eq.2 h7;unfold stC at h0⊢;rw[if_pos h7] at h0⊢;rw[if_neg (by omega:¬20≤o.totals.length)] at h0⊢;have e20:decide (((0:Nat):Int)≥20)=false:=by decide
  have da:=ho.2.2.1 _ ma;have TO:=aAm (tr o.trays x.a) x.f0 x.f1 x.s0 x.s1 (qK ho.1.2 da) da.1 (rX (pR ho ma) hx.f) (yY (pR ho ma) (hx.n h7));cases hb:iX x.f0 x.f1 x.s0 x.s1 (tr o.trays x.a)
  ·rw[aBv hb,hb] at TO;simp only[Bool.false_eq_true,if_false] at TO;rw[if_neg (by decide)];refine fn1 CdV.l15Do_k [.b 0,.b 1] [.var [.loc (.b 1) 0 o.trays.length,.v (.slice none 0 0)] false,.arr 1 (E cD o.trays) false] fun X=>?_;unfold CdV.l15Do
   repeat' first|simp -dsimp only[go_sem,e7,e20,ga,hla,hlt,hk1,hk2,cS]|apply Br.mk<;>intro h<;>try simp -dsimp only[h]|refine aA.c (by first|exact TO) ?_|refine aC ?_|fail
   all_goals first|omega|exact⟨_,_,rfl,rfl⟩
  ·rw[if_pos hb] at h0;exact absurd rfl h0
 ·have e7:(x.kind==7)=false:=beq_eq_false_iff_ne.2 h7;have MK:=aEU x hz o.trays hso.1.2 hso.1.1 hx.a hx.b;rw[show stC x o=dkC x (tr o.trays x.a) (tr o.trays x.b) by unfold stC;rw[if_neg h7]] at h0⊢;rw[aF5 h0] at MK;have e0:(dkC x (tr o.trays x.a) (tr o.trays x.b)==0)=false:=beq_eq_false_iff_ne.2 h0;generalize dkC x (tr o.trays x.a) (tr o.trays x.b)=c at *
  refine fn1 CdV.l15Do_k [.b 0,.b 1] [.var [.loc (.b 1) 0 o.trays.length,.v (.slice none 0 0)] false,.arr 1 (E cD o.trays) false] fun X=>?_;unfold CdV.l15Do
  repeat' first|simp -dsimp only[go_sem,e7,e0,hla,hlt,hk1,hk2,cS]|apply Br.mk<;>intro h<;>try simp -dsimp only[h]|refine aA.borG (B:=[.b 0,.b 1]) (by first|exact MK) rfl ?_|refine aC ?_|fail
  all_goals first|omega|exact⟨_,_,rfl,rfl⟩
theorem aHJ (x:Stp) (hz:x.text.size≤1048576) (o:Off) (w:Nat) (ho:okO w o) (hv:dP x (wO o.trays)=true) (he:o.totals.length=0) (h7:x.kind≠7) (h0:stC x o=0):Vs.Fn Tryz.prog F.u7 [.var [.loc (.b 1) 0 o.trays.length,.v (.slice none 0 0)] false,.arr 1 (E cD o.trays) false] [.ptr (.b 0) 0 0,.ro (cS x)] (.v (.int .i64 0)) ([.var [.loc (.b 1) 0 o.trays.length,.v (.slice none 0 0)] false,.arr 1 (E cD (o.trays.set x.to.toNat (dkL x (tr o.trays x.a) (tr o.trays x.b)))) false].map some):=by
 have hso:=jR ho;have hd6:=ho.2.1;have ht20:=ho.2.2.2.1;have hx:=wE ho hv;have ma:=gN hx.a;have mb:=gN hx.b;have ga:=iO hx.a;have gb:=iO hx.b;have gt:=iO hx.to;have a0:=hx.a.1;have a1:=hx.a.2;have t0:=hx.to.1;have t1:=hx.to.2;have hla:(E cD o.trays).length=o.trays.length:=aH _;have hlt:(E cTs o.totals).length=o.totals.length:=aH _;have hk1:(E cD o.trays).take o.trays.length=E cD o.trays:=List.take_of_length_le (by omega);have hk2:(E cTs o.totals).take o.totals.length=E cTs o.totals:=List.take_of_length_le (by omega);have e7:(x.kind==7)=false:=beq_eq_false_iff_ne.2 h7;have MK:=aEU x hz o.trays hso.1.2 hso.1.1 hx.a hx.b;rw[show stC x o=dkC x (tr o.trays x.a) (tr o.trays x.b) by unfold stC;rw[if_neg h7]] at h0;rw[aF4 h0,h0] at MK;generalize dkL x (tr o.trays x.a) (tr o.trays x.b)=D at *
 have hst:=aGj o.trays x.to.toNat D;refine fn1 CdV.l15Do_k [.b 0,.b 1] [.var [.loc (.b 1) 0 o.trays.length,.v (.slice none 0 0)] false,.arr 1 (E cD (o.trays.set x.to.toNat D)) false] fun X=>?_;unfold CdV.l15Do
 repeat' first|simp -dsimp only[go_sem,e7,gt,hla,hlt,hst,hk1,hk2,Int.reduceBEq,Int.reduceBNe,cC,cO,cS,cFd,aH,List.replicate_succ,List.replicate_zero,List.flatten_cons,List.flatten_nil,List.cons_append,List.nil_append,List.set_cons_zero,List.set_cons_succ,List.length_cons,List.length_nil,List.length_set,List.mem_singleton,List.mem_cons,List.not_mem_nil,or_false,false_or,Vs.Name.t.injEq,List.getD_cons_zero,List.getD_cons_succ,Vs.Name.b.injEq]|apply Br.mk<;>intro h<;>try simp -dsimp only[h]|refine aA.borG (B:=[.b 0,.b 1]) (by first|exact MK) rfl ?_|refine aC ?_|fail
 all_goals first|omega|exact⟨_,_,rfl,rfl⟩
theorem aFP (x:Stp) (hz:x.text.size≤1048576) (o:Off) (w:Nat) (ho:okO w o) (hv:dP x (wO o.trays)=true) (he:o.totals.length=0) (h7:x.kind=7) (h0:stC x o=0):Vs.Fn Tryz.prog F.u7 [.var [.loc (.b 1) 0 o.trays.length,.v (.slice none 0 0)] false,.arr 1 (E cD o.trays) false] [.ptr (.b 0) 0 0,.ro (cS x)] (.v (.int .i64 0)) [some (.var [.loc (.b 1) 0 o.trays.length,.loc (.b 2) 0 (o.totals.length+1)] false),some (.arr 1 (E cD o.trays) false),some (.arr 1 (E cTs (o.totals++[kU x.f0 x.f1 x.s0 x.s1 (tr o.trays x.a)])) false)]:=by
 have hso:=jR ho;have hd6:=ho.2.1;have ht20:=ho.2.2.2.1;have hx:=wE ho hv;have ma:=gN hx.a;have mb:=gN hx.b;have ga:=iO hx.a;have gb:=iO hx.b;have gt:=iO hx.to;have a0:=hx.a.1;have a1:=hx.a.2;have t0:=hx.to.1;have t1:=hx.to.2;have hla:(E cD o.trays).length=o.trays.length:=aH _;have hlt:(E cTs o.totals).length=o.totals.length:=aH _;have hk1:(E cD o.trays).take o.trays.length=E cD o.trays:=List.take_of_length_le (by omega);have hk2:(E cTs o.totals).take o.totals.length=E cTs o.totals:=List.take_of_length_le (by omega);have e7:(x.kind==7)=true:=beq_iff_eq.2 h7;unfold stC at h0;rw[if_pos h7] at h0;have h20:¬20≤o.totals.length:=by intro h;rw[if_pos h] at h0;cases h0
 rw[if_neg h20] at h0;have e20:decide ((o.totals.length:Int)≥20)=false:=decide_eq_false (by omega)
 have hb:iX x.f0 x.f1 x.s0 x.s1 (tr o.trays x.a)=true:=by
  cases hb:iX x.f0 x.f1 x.s0 x.s1 (tr o.trays x.a)
  ·rw[hb] at h0;cases h0
  ·rfl
 have da:=ho.2.2.1 _ ma;have TO:=aAm (tr o.trays x.a) x.f0 x.f1 x.s0 x.s1 (qK ho.1.2 da) da.1 (rX (pR ho ma) hx.f) (yY (pR ho ma) (hx.n h7));rw[aBu hb,hb] at TO;simp only[if_true] at TO;have hsn:=aJ3 o.totals (kU x.f0 x.f1 x.s0 x.s1 (tr o.trays x.a));have e20:decide (((0:Nat):Int)≥20)=false:=by decide
 have hsn:[[.sl 2 (E cT (kU x.f0 x.f1 x.s0 x.s1 (tr o.trays x.a)))]]=E cTs (o.totals++[kU x.f0 x.f1 x.s0 x.s1 (tr o.trays x.a)]):=by rw[List.eq_nil_of_length_eq_zero he];rfl
 refine CdV.l15Do_k.o.fnD Tryz.mixed (hin:=[.var [.loc (.b 1) 0 o.trays.length,.v (.slice none 0 0)] false,.arr 1 (E cD o.trays) false]) (args:=[.ptr (.b 0) 0 0,.ro (cS x)]) _ _ [.b 0,.b 1,.t 51 0] [some (.var [.loc (.b 1) 0 o.trays.length,.loc (.b 2) 0 (o.totals.length+1)] false),some (.arr 1 (E cD o.trays) false),some (.arr 1 (E cTs (o.totals++[kU x.f0 x.f1 x.s0 x.s1 (tr o.trays x.a)])) false)] CdV.l15Do_k.n CdV.l15Do_k.r rfl rfl (by intro j hj;rcases j with _|_|_|j<;>first|rfl|(simp at hj;done)|(simp at hj;omega)) fun X=>?_;unfold CdV.l15Do
 repeat' first|simp -dsimp only[go_sem,e7,e20,ga,hla,hlt,hsn,hk1,hk2,he,Nat.zero_add,Int.reduceBEq,Int.reduceBNe,cC,cO,cS,cFd,aH,List.replicate_succ,List.replicate_zero,List.flatten_cons,List.flatten_nil,List.cons_append,List.nil_append,List.set_cons_zero,List.set_cons_succ,List.length_cons,List.length_nil,List.length_set,List.mem_singleton,List.mem_cons,List.not_mem_nil,or_false,false_or,Vs.Name.t.injEq,List.getD_cons_zero,List.getD_cons_succ,Vs.Name.b.injEq]|apply Br.mk<;>intro h<;>try simp -dsimp only[h]|refine aA.c (by first|exact TO) ?_|refine aC ?_|fail
 all_goals first|omega|exact⟨_,_,rfl,rfl⟩
attribute [local go_sem] Int.reduceBEq Int.reduceBNe cC cO cFd aH List.replicate_succ List.replicate_zero List.flatten_cons List.flatten_nil List.cons_append List.nil_append List.set_cons_zero List.set_cons_succ List.length_cons List.length_nil List.length_set List.mem_singleton List.mem_cons List.not_mem_nil or_false false_or Vs.Name.t.injEq List.getD_cons_zero List.getD_cons_succ Vs.Name.b.injEq in
theorem aHG (x:Stp) (hz:x.text.size≤1048576) (o:Off) (w:Nat) (ho:okO w o) (hv:dP x (wO o.trays)=true) (h0:stC x o≠0):Vs.Fn Tryz.prog F.u7 [.var [.loc (.b 1) 0 o.trays.length,.loc (.b 2) 0 o.totals.length] false,.arr 1 (E cD o.trays) false,.arr 1 (E cTs o.totals) false] [.ptr (.b 0) 0 0,.ro (cS x)] (.v (.int .i64 (stC x o))) ([.var [.loc (.b 1) 0 o.trays.length,.loc (.b 2) 0 o.totals.length] false,.arr 1 (E cD o.trays) false,.arr 1 (E cTs o.totals) false].map some):=by
 have hso:=jR ho;have hd6:=ho.2.1;have ht20:=ho.2.2.2.1;have hx:=wE ho hv;have ma:=gN hx.a;have mb:=gN hx.b;have ga:=iO hx.a;have gb:=iO hx.b;have gt:=iO hx.to;have a0:=hx.a.1;have a1:=hx.a.2;have t0:=hx.to.1;have t1:=hx.to.2;have hla:(E cD o.trays).length=o.trays.length:=aH _;have hlt:(E cTs o.totals).length=o.totals.length:=aH _;have hk1:(E cD o.trays).take o.trays.length=E cD o.trays:=List.take_of_length_le (by omega);have hk2:(E cTs o.totals).take o.totals.length=E cTs o.totals:=List.take_of_length_le (by omega);by_cases h7:x.kind=7
 ·have e7:(x.kind==7)=true:=beq_iff_eq.2 h7;unfold stC at h0⊢;rw[if_pos h7] at h0⊢;by_cases h20:20≤o.totals.length
  ·have e20:decide ((o.totals.length:Int)≥20)=true:=decide_eq_true (by omega);rw[if_pos h20];refine fn1 CdV.l15Do_k [.b 0,.b 1,.b 2] [.var [.loc (.b 1) 0 o.trays.length,.loc (.b 2) 0 o.totals.length] false,.arr 1 (E cD o.trays) false,.arr 1 (E cTs o.totals) false] fun X=>?_;unfold CdV.l15Do
   repeat' first|simp -dsimp only[go_sem,e7,e20,hla,hlt,hk1,hk2,cS]|apply Br.mk<;>intro h<;>try simp -dsimp only[h]|refine aC ?_|fail
   all_goals first|omega|exact⟨_,_,rfl,rfl⟩
  rw[if_neg h20] at h0⊢;have e20:decide ((o.totals.length:Int)≥20)=false:=decide_eq_false (by omega);have da:=ho.2.2.1 _ ma;have TO:=aAm (tr o.trays x.a) x.f0 x.f1 x.s0 x.s1 (qK ho.1.2 da) da.1 (rX (pR ho ma) hx.f) (yY (pR ho ma) (hx.n h7));cases hb:iX x.f0 x.f1 x.s0 x.s1 (tr o.trays x.a)
  ·rw[aBv hb,hb] at TO;simp only[Bool.false_eq_true,if_false] at TO;rw[if_neg (by decide)];refine fn1 CdV.l15Do_k [.b 0,.b 1,.b 2] [.var [.loc (.b 1) 0 o.trays.length,.loc (.b 2) 0 o.totals.length] false,.arr 1 (E cD o.trays) false,.arr 1 (E cTs o.totals) false] fun X=>?_;unfold CdV.l15Do
   repeat' first|simp -dsimp only[go_sem,e7,e20,ga,hla,hlt,hk1,hk2,cS]|apply Br.mk<;>intro h<;>try simp -dsimp only[h]|refine aA.c (by first|exact TO) ?_|refine aC ?_|fail
   all_goals first|omega|exact⟨_,_,rfl,rfl⟩
  ·rw[if_pos hb] at h0;exact absurd rfl h0
 ·have e7:(x.kind==7)=false:=beq_eq_false_iff_ne.2 h7;have MK:=aEV x hz o.trays hso.1.2 hso.1.1 hx.a hx.b o.totals;rw[show stC x o=dkC x (tr o.trays x.a) (tr o.trays x.b) by unfold stC;rw[if_neg h7]] at h0⊢;rw[aF5 h0] at MK;have e0:(dkC x (tr o.trays x.a) (tr o.trays x.b)==0)=false:=beq_eq_false_iff_ne.2 h0;generalize dkC x (tr o.trays x.a) (tr o.trays x.b)=c at *
  refine fn1 CdV.l15Do_k [.b 0,.b 1,.b 2] [.var [.loc (.b 1) 0 o.trays.length,.loc (.b 2) 0 o.totals.length] false,.arr 1 (E cD o.trays) false,.arr 1 (E cTs o.totals) false] fun X=>?_;unfold CdV.l15Do
  repeat' first|simp -dsimp only[go_sem,e7,e0,hla,hlt,hk1,hk2,cS]|apply Br.mk<;>intro h<;>try simp -dsimp only[h]|refine aA.borG (B:=[.b 0,.b 1,.b 2]) (by first|exact MK) rfl ?_|refine aC ?_|fail
  all_goals first|omega|exact⟨_,_,rfl,rfl⟩
theorem aHH (x:Stp) (hz:x.text.size≤1048576) (o:Off) (w:Nat) (ho:okO w o) (hv:dP x (wO o.trays)=true) (h7:x.kind≠7) (h0:stC x o=0):Vs.Fn Tryz.prog F.u7 [.var [.loc (.b 1) 0 o.trays.length,.loc (.b 2) 0 o.totals.length] false,.arr 1 (E cD o.trays) false,.arr 1 (E cTs o.totals) false] [.ptr (.b 0) 0 0,.ro (cS x)] (.v (.int .i64 0)) ([.var [.loc (.b 1) 0 o.trays.length,.loc (.b 2) 0 o.totals.length] false,.arr 1 (E cD (o.trays.set x.to.toNat (dkL x (tr o.trays x.a) (tr o.trays x.b)))) false,.arr 1 (E cTs o.totals) false].map some):=by
 have hso:=jR ho;have hd6:=ho.2.1;have ht20:=ho.2.2.2.1;have hx:=wE ho hv;have ma:=gN hx.a;have mb:=gN hx.b;have ga:=iO hx.a;have gb:=iO hx.b;have gt:=iO hx.to;have a0:=hx.a.1;have a1:=hx.a.2;have t0:=hx.to.1;have t1:=hx.to.2;have hla:(E cD o.trays).length=o.trays.length:=aH _;have hlt:(E cTs o.totals).length=o.totals.length:=aH _;have hk1:(E cD o.trays).take o.trays.length=E cD o.trays:=List.take_of_length_le (by omega);have hk2:(E cTs o.totals).take o.totals.length=E cTs o.totals:=List.take_of_length_le (by omega);have e7:(x.kind==7)=false:=beq_eq_false_iff_ne.2 h7;have MK:=aEV x hz o.trays hso.1.2 hso.1.1 hx.a hx.b o.totals;rw[show stC x o=dkC x (tr o.trays x.a) (tr o.trays x.b) by unfold stC;rw[if_neg h7]] at h0;rw[aF4 h0,h0] at MK;generalize dkL x (tr o.trays x.a) (tr o.trays x.b)=D at *
 have hst:=aGj o.trays x.to.toNat D;refine fn1 CdV.l15Do_k [.b 0,.b 1,.b 2] [.var [.loc (.b 1) 0 o.trays.length,.loc (.b 2) 0 o.totals.length] false,.arr 1 (E cD (o.trays.set x.to.toNat D)) false,.arr 1 (E cTs o.totals) false] fun X=>?_;unfold CdV.l15Do
 repeat' first|simp -dsimp only[go_sem,e7,gt,hla,hlt,hst,hk1,hk2,Int.reduceBEq,Int.reduceBNe,cC,cO,cS,cFd,aH,List.replicate_succ,List.replicate_zero,List.flatten_cons,List.flatten_nil,List.cons_append,List.nil_append,List.set_cons_zero,List.set_cons_succ,List.length_cons,List.length_nil,List.length_set,List.mem_singleton,List.mem_cons,List.not_mem_nil,or_false,false_or,Vs.Name.t.injEq,List.getD_cons_zero,List.getD_cons_succ,Vs.Name.b.injEq]|apply Br.mk<;>intro h<;>try simp -dsimp only[h]|refine aA.borG (B:=[.b 0,.b 1,.b 2]) (by first|exact MK) rfl ?_|refine aC ?_|fail
 all_goals first|omega|exact⟨_,_,rfl,rfl⟩
theorem aFO (x:Stp) (hz:x.text.size≤1048576) (o:Off) (w:Nat) (ho:okO w o) (hv:dP x (wO o.trays)=true) (h7:x.kind=7) (h0:stC x o=0):Vs.Fn Tryz.prog F.u7 [.var [.loc (.b 1) 0 o.trays.length,.loc (.b 2) 0 o.totals.length] false,.arr 1 (E cD o.trays) false,.arr 1 (E cTs o.totals) false] [.ptr (.b 0) 0 0,.ro (cS x)] (.v (.int .i64 0)) [some (.var [.loc (.b 1) 0 o.trays.length,.loc (.b 3) 0 (o.totals.length+1)] false),some (.arr 1 (E cD o.trays) false),none,some (.arr 1 (E cTs (o.totals++[kU x.f0 x.f1 x.s0 x.s1 (tr o.trays x.a)])) false)]:=by
 have hso:=jR ho;have hd6:=ho.2.1;have ht20:=ho.2.2.2.1;have hx:=wE ho hv;have ma:=gN hx.a;have mb:=gN hx.b;have ga:=iO hx.a;have gb:=iO hx.b;have gt:=iO hx.to;have a0:=hx.a.1;have a1:=hx.a.2;have t0:=hx.to.1;have t1:=hx.to.2;have hla:(E cD o.trays).length=o.trays.length:=aH _;have hlt:(E cTs o.totals).length=o.totals.length:=aH _;have hk1:(E cD o.trays).take o.trays.length=E cD o.trays:=List.take_of_length_le (by omega);have hk2:(E cTs o.totals).take o.totals.length=E cTs o.totals:=List.take_of_length_le (by omega);have e7:(x.kind==7)=true:=beq_iff_eq.2 h7;unfold stC at h0;rw[if_pos h7] at h0;have h20:¬20≤o.totals.length:=by intro h;rw[if_pos h] at h0;cases h0
 rw[if_neg h20] at h0;have e20:decide ((o.totals.length:Int)≥20)=false:=decide_eq_false (by omega)
 have hb:iX x.f0 x.f1 x.s0 x.s1 (tr o.trays x.a)=true:=by
  cases hb:iX x.f0 x.f1 x.s0 x.s1 (tr o.trays x.a)
  ·rw[hb] at h0;cases h0
  ·rfl
 have da:=ho.2.2.1 _ ma;have TO:=aAm (tr o.trays x.a) x.f0 x.f1 x.s0 x.s1 (qK ho.1.2 da) da.1 (rX (pR ho ma) hx.f) (yY (pR ho ma) (hx.n h7));rw[aBu hb,hb] at TO;simp only[if_true] at TO;have hsn:=aJ3 o.totals (kU x.f0 x.f1 x.s0 x.s1 (tr o.trays x.a));refine CdV.l15Do_k.o.fnD Tryz.mixed (hin:=[.var [.loc (.b 1) 0 o.trays.length,.loc (.b 2) 0 o.totals.length] false,.arr 1 (E cD o.trays) false,.arr 1 (E cTs o.totals) false]) (args:=[.ptr (.b 0) 0 0,.ro (cS x)]) _ _ [.b 0,.b 1,.b 2,.t 51 0] [some (.var [.loc (.b 1) 0 o.trays.length,.loc (.b 3) 0 (o.totals.length+1)] false),some (.arr 1 (E cD o.trays) false),none,some (.arr 1 (E cTs (o.totals++[kU x.f0 x.f1 x.s0 x.s1 (tr o.trays x.a)])) false)] CdV.l15Do_k.n CdV.l15Do_k.r rfl rfl (by intro j hj;rcases j with _|_|_|j<;>first|rfl|(simp at hj;done)|(simp at hj;omega)) fun X=>?_;unfold CdV.l15Do
 repeat' first|simp -dsimp only[go_sem,e7,e20,ga,hla,hlt,hsn,hk1,hk2,Int.reduceBEq,Int.reduceBNe,cC,cO,cS,cFd,aH,List.replicate_succ,List.replicate_zero,List.flatten_cons,List.flatten_nil,List.cons_append,List.nil_append,List.set_cons_zero,List.set_cons_succ,List.length_cons,List.length_nil,List.length_set,List.mem_singleton,List.mem_cons,List.not_mem_nil,or_false,false_or,Vs.Name.t.injEq,List.getD_cons_zero,List.getD_cons_succ,Vs.Name.b.injEq]|apply Br.mk<;>intro h<;>try simp -dsimp only[h]|refine aA.c (by first|exact TO) ?_|refine aC ?_|fail
 all_goals first|omega|exact⟨_,_,rfl,rfl⟩
end
end Go.Proofs.YthbnjmgjhonfbaaGreat
