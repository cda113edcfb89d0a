/- A flow run by the program. -/
import Derived.Test.YtmiiohemehacjaaGreatDoorXwVm
import Derived.Test.YtmiiohemehacjaaGreatDoorXwVn
set_option linter.all false
set_option maxHeartbeats 8000000
namespace Go.Proofs.YtmiiohemehacjaaGreatDoor
open Go.Vs
section
variable [Vs.Envs]
attribute [local irreducible] Vs.Fn chOK areCh chTo chAt l03 chB rk cd3 chI stp stpTo
theorem aJG {k:Nat}{S:Nat->Prop}{w:World}{v:Value} (h:RC S w (.v (.slice none 0 0)) v):RC S w (.sl k []) v:=by
 cases h;exact RC.sl k [] none 0 0 0 (λ_=>undef) (λh=>absurd rfl h) (λi j h=>by simp at h) (λi j h=>by simp at h) (λi j h=>by simp at h) (λi h=>by simp at h) ⟨AL _,by decide⟩
theorem aEV {P:Program}{f:FuncId}{hin:List Blk}{args args':List AV}{r:AV}{hout:List (Option Blk)} (I:args.length=args'.length)
  (h:∀(S:Nat->Prop) (w:World) (j:Nat) (v:Value),j<args.length->(∀ρ κ hh,RV S w ρ κ hh (args.getD j .junk) v->RV S w ρ κ hh (args'.getD j .junk) v)) (u:Vs.Fn P f hin args' r hout):Vs.Fn P f hin args r hout:=by
 unfold Vs.Fn at u⊢;exact⟨u.1,λS w ρ κ vs F h2 G H=>u.2 S w ρ κ vs F h2 (G.trans I) λj J=>h S w j _ (by omega) ρ κ _ (H j (by omega))⟩
theorem aMB {S:Nat->Prop}{w:World}{x:AV}{k:Nat}{v:Value}{ρ:Vs.Name->Option Nat}{κ:Vs.Name->Nat}{hh:Vs.Name->Option Blk} (h:RV S w ρ κ hh (.ro [x,.v (.slice none 0 0)]) v):RV S w ρ κ hh (.ro [x,.sl k []]) v:=by
 have h:=wG h;refine .clo ?_;generalize u:[x,AV.v (.slice none 0 0)]=c at h;cases h with
 | ro c y off xs hS h1 h2 h3 =>
  subst u;refine .ro _ y off xs hS h1 h2 λj F=>?_
  match j,F with
  |0,_=>exact h3 0 (by simp)
  |1,_=>exact aJG (h3 1 (by simp))
theorem aL4 {S:Nat->Prop}{w:World}{x:AV}{k:Nat}{v:Value}{ρ:Vs.Name->Option Nat}{κ:Vs.Name->Nat}{hh:Vs.Name->Option Blk} (h:RV S w ρ κ hh (.agg [x,.v (.slice none 0 0)]) v):RV S w ρ κ hh (.agg [x,.sl k []]) v:=by
 obtain⟨vs,rfl,u,h2⟩:=qN h;refine .agg _ _ u λj F=>?_
 match j,F with
 |0,_=>exact h2 0 (by simp)
 |1,_=>exact .clo (aJG ((h2 1 (by simp)).closed rfl))
def gA (n:Vs.Name) (i:Nat):AV:=if i=0 then .v (.slice none 0 0) else .loc n 0 i
def gH (n:Vs.Name) (rows:List (List AV)) (i:Nat):List (Vs.Name×Blk):=if i=0 then[] else[(n,.arr 1 rows false)]
attribute [local go_sem] Int.reduceBEq Int.reduceBNe cC cTs aH Ai Ah Al Aq Ad Af Ac Ae Aa Ab Ao Ar Ay Az Bo Bq Vs.Name.t.injEq in
theorem aCu (o:Off) (ho:fC o) (hb:0<o.trays.length) (Y:o.totals.length=0):Vs.Fn Tryz.prog F.kD [] [.ro (cO o)] (.agg [.loc (.b 0) 0 o.trays.length,.v (.slice none 0 0)]) [some (.arr 1 (E cD o.trays) false)]:=by
 have hn:=ho.1.1;have hm:=ho.2.1;refine fn1 Cd.s_l15Own_k [.t 27 0] [.arr 1 (E cD o.trays) false] λX=>?_;unfold Cd.kD
 repeat' first|simp -dsimp only[go_sem,cO,cD]|apply Br.mk<;>intro h<;>try simp -dsimp only[h]|refine aC ?_|refine aC9 ?_|fail
 refine aO.at dM (X:={i:Nat // i<=o.trays.length}) (λi=>[(4,.v (.int .i64 (i.1:Nat)))]) (λi=>(.t 3 0,.var [gA (.t 27 0) i.1,.v (.slice none 0 0)] false)::gH (.t 27 0) (E cD (o.trays.take i.1)) i.1) (λi=>o.trays.length-i.1) ⟨0,by omega⟩ ?_ ?_
 .simp[Vs.LeL,Vs.look,aB,aP,aJ,Vs.hset,aK,gA,gH]
 .rintro⟨i,hi⟩
  try dsimp only at hi
  by_cases I:i<o.trays.length
  .have J:decide ((i:Int)<(o.trays.length:Int))=true:=AR (by omega);have Z:=aI I (by omega);have H:=aKN I;have u:=aE8 I;have U:(E cD (o.trays.take i)).length=i:=by rw[aH];simp;omega
   have O:(o.trays.take i).length=i:=by simp;omega
   have CP:=aCv o.trays[i] (ho.1.2 _ (Am I));by_cases G:i=0
   .have L:gA (.t 27 0) i=.v (.slice none 0 0):=by simp[gA,G]
    have M:gH (.t 27 0) (E cD (o.trays.take i)) i=[]:=by simp[gH,G]
    have V:E cD (o.trays.take i)=[]:=by rw[G];rfl
    rw[V,Af] at u;rw[L,M];simp -dsimp only[go_sem,J,H,cO,cD]
    repeat' first|simp -dsimp only[go_sem,J,H,Z,u,cO,cD]|apply Br.mk<;>intro h<;>try simp -dsimp only[h]|refine aA.c (by first|exact CP) ?_|refine aC ?_|refine aC9 ?_|fail
    all_goals first|omega|(exact⟨⟨i+1,by omega⟩,by simp[Vs.LeL,Vs.look,aB,aP,aJ,Vs.hset,aK,gA,gH,u,G],by simp only;omega⟩)
   .have L:gA (.t 27 0) i=.loc (.t 27 0) 0 i:=by simp[gA,G]
    have M:gH (.t 27 0) (E cD (o.trays.take i)) i=[(.t 27 0,.arr 1 (E cD (o.trays.take i)) false)]:=by simp[gH,G]
    rw[L,M];simp -dsimp only[go_sem,J,H,cO,cD]
    repeat' first|simp -dsimp only[go_sem,J,H,Z,u,U,O,cO,cD]|apply Br.mk<;>intro h<;>try simp -dsimp only[h]|refine aA.c (by first|exact CP) ?_|refine aC ?_|refine aC9 ?_|fail
    all_goals first|omega|(exact⟨⟨i+1,by omega⟩,by simp[Vs.LeL,Vs.look,aB,aP,aJ,Vs.hset,aK,gA,gH,u,G],by simp only;omega⟩)
  .obtain rfl:i=o.trays.length:=by omega
   have J:decide ((o.trays.length:Int)<(o.trays.length:Int))=false:=by simp
   have L:gA (.t 27 0) o.trays.length=.loc (.t 27 0) 0 o.trays.length:=by unfold gA;rw[AJ (by omega)]
   have M:gH (.t 27 0) (E cD (o.trays.take o.trays.length)) o.trays.length=[(.t 27 0,.arr 1 (E cD (o.trays.take o.trays.length)) false)]:=by unfold gH;rw[AJ (by omega)]
   rw[L,M];simp -dsimp only[go_sem,J,cO,cD];refine And.intro ?_ (λh=>absurd rfl h);refine aO.at dM (X:={i:Nat // i<=o.totals.length}) (λi=>[(5,.v (.int .i64 (i.1:Nat)))]) (λi=>(.t 3 0,.var [.loc (.t 27 0) 0 o.trays.length,gA (.t 50 0) i.1] false)::gH (.t 50 0) (E cTs (o.totals.take i.1)) i.1) (λi=>o.totals.length-i.1) ⟨0,by omega⟩ ?_ ?_
   .simp[Vs.LeL,Vs.look,aB,aP,aJ,Vs.hset,aK,gA,gH]
   .rintro⟨i,hi⟩
    try dsimp only at hi
    by_cases I:i<o.totals.length
    .have J:decide ((i:Int)<(o.totals.length:Int))=true:=AR (by omega);have Z:=aI I (by omega);have H:=aG2 I;have u:=aE7 I;have U:(E cTs (o.totals.take i)).length=i:=by rw[aH];simp;omega
     have O:(o.totals.take i).length=i:=by simp;omega
     have hs:=(ho.2.2 _ (Am I)).1;by_cases G:i=0
     .have L:gA (.t 50 0) i=.v (.slice none 0 0):=by simp[gA,G]
      have M:gH (.t 50 0) (E cTs (o.totals.take i)) i=[]:=by simp[gH,G]
      have V:E cTs (o.totals.take i)=[]:=by rw[G];rfl
      rw[V,Af] at u;rw[L,M];simp -dsimp only[go_sem,J,H,cO,cD]
      repeat' first|simp -dsimp only[go_sem,J,H,Z,u,cO,cD]|apply Br.mk<;>intro h<;>try simp -dsimp only[h]|refine aC ?_|refine aC9 ?_|fail
      all_goals first|omega|(exact⟨⟨i+1,by omega⟩,by simp[Vs.LeL,Vs.look,aB,aP,aJ,Vs.hset,aK,gA,gH,u,G],by simp only;omega⟩)
     .have L:gA (.t 50 0) i=.loc (.t 50 0) 0 i:=by simp[gA,G]
      have M:gH (.t 50 0) (E cTs (o.totals.take i)) i=[(.t 50 0,.arr 1 (E cTs (o.totals.take i)) false)]:=by simp[gH,G]
      rw[L,M];simp -dsimp only[go_sem,J,H,cO,cD]
      repeat' first|simp -dsimp only[go_sem,J,H,Z,u,U,O,cO,cD]|apply Br.mk<;>intro h<;>try simp -dsimp only[h]|refine aC ?_|refine aC9 ?_|fail
      all_goals first|omega|(exact⟨⟨i+1,by omega⟩,by simp[Vs.LeL,Vs.look,aB,aP,aJ,Vs.hset,aK,gA,gH,u,G],by simp only;omega⟩)
    .obtain rfl:i=o.totals.length:=by omega
     have J:decide ((o.totals.length:Int)<(o.totals.length:Int))=false:=by simp
     have ha:(E cD (o.trays.take o.trays.length))=E cD o.trays:=by rw[Ce]
     have L:gA (.t 50 0) o.totals.length=.v (.slice none 0 0):=by simp[gA,Y]
     have M:gH (.t 50 0) (E cTs (o.totals.take o.totals.length)) o.totals.length=[]:=by simp[gH,Y]
     rw[L,M]
     repeat' first|simp -dsimp only[go_sem,J,ha,cO,cD]|apply Br.mk<;>intro h<;>try simp -dsimp only[h]|refine And.intro ?_ (λh=>absurd rfl h)|refine aC ?_|refine aC9 ?_|fail
     all_goals first|omega|exact⟨_,_,rfl,rfl⟩|exact⟨⟨_,_,rfl,rfl⟩,λh=>h rfl⟩
attribute [local go_sem] Int.reduceBEq Int.reduceBNe cC aH Ai Ah Al Aq Ad Af Ac Ae Aa Ab Ao Ar Ay Az Bo Bq Vs.Name.t.injEq in
theorem aHH (o:Off) (Z:fC o) (hd:0<o.trays.length) (hc:0<o.totals.length):Vs.Fn Tryz.prog F.kD [] [.ro (cO o)] (.agg [.loc (.b 0) 0 o.trays.length,.loc (.b 1) 0 o.totals.length]) [some (.arr 1 (E cD o.trays) false),some (.arr 1 (E cTs o.totals) false)]:=by
 have hn:=Z.1.1;have hm:=Z.2.1;refine fn1 Cd.s_l15Own_k [.t 27 0,.t 50 0] [.arr 1 (E cD o.trays) false,.arr 1 (E cTs o.totals) false] λX=>?_;unfold Cd.kD
 repeat' first|simp -dsimp only[go_sem,cO,cTs,cD]|apply Br.mk<;>intro h<;>try simp -dsimp only[h]|refine aC ?_|refine aC9 ?_|fail
 refine aO.at dM (X:={i:Nat // i<=o.trays.length}) (λi=>[(4,.v (.int .i64 (i.1:Nat)))]) (λi=>(.t 3 0,.var [gA (.t 27 0) i.1,.v (.slice none 0 0)] false)::gH (.t 27 0) (E cD (o.trays.take i.1)) i.1) (λi=>o.trays.length-i.1) ⟨0,by omega⟩ ?_ ?_
 .simp[Vs.LeL,Vs.look,aB,aP,aJ,Vs.hset,aK,gA,gH]
 .rintro⟨i,hi⟩
  try dsimp only at hi
  by_cases I:i<o.trays.length
  .have J:decide ((i:Int)<(o.trays.length:Int))=true:=AR (by omega);have Y:=aI I (by omega);have H:=aKN I;have u:=aE8 I;have U:(E cD (o.trays.take i)).length=i:=by rw[aH];simp;omega
   have O:(o.trays.take i).length=i:=by simp;omega
   have CP:=aCv o.trays[i] (Z.1.2 _ (Am I));by_cases G:i=0
   .have L:gA (.t 27 0) i=.v (.slice none 0 0):=by simp[gA,G]
    have M:gH (.t 27 0) (E cD (o.trays.take i)) i=[]:=by simp[gH,G]
    have V:E cD (o.trays.take i)=[]:=by rw[G];rfl
    rw[V,Af] at u;rw[L,M];simp -dsimp only[go_sem,J,H,cO,cTs,cD]
    repeat' first|simp -dsimp only[go_sem,J,H,Y,u,cO,cTs,cD]|apply Br.mk<;>intro h<;>try simp -dsimp only[h]|refine aA.c (by first|exact CP) ?_|refine aC ?_|refine aC9 ?_|fail
    all_goals first|omega|(exact⟨⟨i+1,by omega⟩,by simp[Vs.LeL,Vs.look,aB,aP,aJ,Vs.hset,aK,gA,gH,u,G],by simp only;omega⟩)
   .have L:gA (.t 27 0) i=.loc (.t 27 0) 0 i:=by simp[gA,G]
    have M:gH (.t 27 0) (E cD (o.trays.take i)) i=[(.t 27 0,.arr 1 (E cD (o.trays.take i)) false)]:=by simp[gH,G]
    rw[L,M];simp -dsimp only[go_sem,J,H,cO,cTs,cD]
    repeat' first|simp -dsimp only[go_sem,J,H,Y,u,U,O,cO,cTs,cD]|apply Br.mk<;>intro h<;>try simp -dsimp only[h]|refine aA.c (by first|exact CP) ?_|refine aC ?_|refine aC9 ?_|fail
    all_goals first|omega|(exact⟨⟨i+1,by omega⟩,by simp[Vs.LeL,Vs.look,aB,aP,aJ,Vs.hset,aK,gA,gH,u,G],by simp only;omega⟩)
  .obtain rfl:i=o.trays.length:=by omega
   have J:decide ((o.trays.length:Int)<(o.trays.length:Int))=false:=by simp
   have L:gA (.t 27 0) o.trays.length=.loc (.t 27 0) 0 o.trays.length:=by unfold gA;rw[AJ (by omega)]
   have M:gH (.t 27 0) (E cD (o.trays.take o.trays.length)) o.trays.length=[(.t 27 0,.arr 1 (E cD (o.trays.take o.trays.length)) false)]:=by unfold gH;rw[AJ (by omega)]
   rw[L,M];simp -dsimp only[go_sem,J,cO,cTs,cD];refine And.intro ?_ (λh=>absurd rfl h);refine aO.at dM (X:={i:Nat // i<=o.totals.length}) (λi=>[(5,.v (.int .i64 (i.1:Nat)))]) (λi=>(.t 3 0,.var [.loc (.t 27 0) 0 o.trays.length,gA (.t 50 0) i.1] false)::gH (.t 50 0) (E cTs (o.totals.take i.1)) i.1) (λi=>o.totals.length-i.1) ⟨0,by omega⟩ ?_ ?_
   .simp[Vs.LeL,Vs.look,aB,aP,aJ,Vs.hset,aK,gA,gH]
   .rintro⟨i,hi⟩
    try dsimp only at hi
    by_cases I:i<o.totals.length
    .have J:decide ((i:Int)<(o.totals.length:Int))=true:=AR (by omega);have Y:=aI I (by omega);have H:=aG2 I;have u:=aE7 I;have U:(E cTs (o.totals.take i)).length=i:=by rw[aH];simp;omega
     have O:(o.totals.take i).length=i:=by simp;omega
     have hs:=(Z.2.2 _ (Am I)).1;by_cases G:i=0
     .have L:gA (.t 50 0) i=.v (.slice none 0 0):=by simp[gA,G]
      have M:gH (.t 50 0) (E cTs (o.totals.take i)) i=[]:=by simp[gH,G]
      have V:E cTs (o.totals.take i)=[]:=by rw[G];rfl
      rw[V,Af] at u;rw[L,M];simp -dsimp only[go_sem,J,H,cO,cTs,cD]
      repeat' first|simp -dsimp only[go_sem,J,H,Y,u,cO,cTs,cD]|apply Br.mk<;>intro h<;>try simp -dsimp only[h]|refine aC ?_|refine aC9 ?_|fail
      all_goals first|omega|(exact⟨⟨i+1,by omega⟩,by simp[Vs.LeL,Vs.look,aB,aP,aJ,Vs.hset,aK,gA,gH,u,G],by simp only;omega⟩)
     .have L:gA (.t 50 0) i=.loc (.t 50 0) 0 i:=by simp[gA,G]
      have M:gH (.t 50 0) (E cTs (o.totals.take i)) i=[(.t 50 0,.arr 1 (E cTs (o.totals.take i)) false)]:=by simp[gH,G]
      rw[L,M];simp -dsimp only[go_sem,J,H,cO,cTs,cD]
      repeat' first|simp -dsimp only[go_sem,J,H,Y,u,U,O,cO,cTs,cD]|apply Br.mk<;>intro h<;>try simp -dsimp only[h]|refine aC ?_|refine aC9 ?_|fail
      all_goals first|omega|(exact⟨⟨i+1,by omega⟩,by simp[Vs.LeL,Vs.look,aB,aP,aJ,Vs.hset,aK,gA,gH,u,G],by simp only;omega⟩)
    .obtain rfl:i=o.totals.length:=by omega
     have J:decide ((o.totals.length:Int)<(o.totals.length:Int))=false:=by simp
     have ha:(E cD (o.trays.take o.trays.length))=E cD o.trays:=by rw[Ce]
     have hb:(E cTs (o.totals.take o.totals.length))=E cTs o.totals:=by rw[Ce]
     have L:gA (.t 50 0) o.totals.length=.loc (.t 50 0) 0 o.totals.length:=by unfold gA;rw[AJ (by omega)]
     have M:gH (.t 50 0) (E cTs (o.totals.take o.totals.length)) o.totals.length=[(.t 50 0,.arr 1 (E cTs (o.totals.take o.totals.length)) false)]:=by unfold gH;rw[AJ (by omega)]
     rw[L,M]
     repeat' first|simp -dsimp only[go_sem,J,ha,hb,cO,cTs,cD]|apply Br.mk<;>intro h<;>try simp -dsimp only[h]|refine And.intro ?_ (λh=>absurd rfl h)|refine aC ?_|refine aC9 ?_|fail
     all_goals first|omega|exact⟨_,_,rfl,rfl⟩|exact⟨⟨_,_,rfl,rfl⟩,λh=>h rfl⟩
end
section
variable [Vs.Envs]
attribute [local irreducible] Vs.Fn bD mgC lM mtC eU uB mat aAx dkC dkL nZ o7 dW wO chOK areCh chTo chAt l03 chB rk cd3 chI stp stpTo
open Go.Vs.Q in
def CdV.l15Do:aF:=s [mi 4 0] [0,1]<|.seq (s [m 9 1,nc 10 9,fa 11 0 10,lf 12 1 11,en 13 12 7] [0,1,13]<|.cond 13 (.seq (s [m 14 0,nc 15 14,fa 16 1 15,lf 17 1 16,ln 18 17,o 19 (.bin .geq 18 (k 20))] [0,1,19]<|.cond 19 (s [mi 4 5] [4]<|.ret) .skip)<|r [m 21 0,nc 22 21,fa 23 0 22,lf 24 1 23,m 25 1,nc 26 25,fa 27 1 26,lf
 28 1 27,ix 29 1 24 28,lf 30 1 29,m 31 1,nc 32 31,fa 33 4 32,lt 34 2 33,m 35 1,nc 36 35,fa 37 6 36,lt 38 2 37,c 39 F.uI [30,34,38],m 20 39,ex 40 20 0,ex 41 20 1,m 5 40,m 6 41] [0,5,6] [21,23,24,22,25,26,27,28,29,30,31,32,33,34,35,36,37,38,39,20,40,41,5]<|.seq (s [m 42 6,en 43 42 0]
 [0,5,6,43]<|.cond 43 (.region [m 44 0,m 45 0,nc 46 45,fa 47 1 46,lf 48 1 47,m 49 5,o 50 (.bslice 1 1 [.v (.slice none 0 0)] [(0,49)]),o 51 (.append 1 24 48 50),nc 52 44,fa 53 1 52,⟨none,.store 1 53 51,none⟩] [6] []) .skip)<|s [m 54 6,m 4 54] [4]<|.ret) .skip)<|s [m 56 0,m 57 1,o 58 (.call (.func
 F.bZ) [56,57] [0]),m 55 58,ex 59 55 0,ex 60 55 1,m 7 59,m 8 60] [0,1,7,8]<|.seq (s [m 61 8,en 62 61 0] [0,1,7,8,62]<|.cond 62 (.region [m 63 0,nc 64 63,fa 65 0 64,lf 66 1 65,m 67 1,nc 68 67,fa 69 3 68,lf 70 1 69,m 71 7,ix 72 1 66 70,⟨none,.store 1 72 71,none⟩] [8]
 [63,65,66,64,67,68,69,70,71]) .skip)<|s [m 73 8,m 4 73] [4]<|.ret
theorem CdV.l15Do_k:CK 70 Tryz.f70 CdV.l15Do 74 [.tmp 4]:=ck Tryz.func70
attribute [go_sem] CdV.l15Do
theorem aC9 {a b:Prop} (h:b) (u:a:=by and_intros<;>first|rfl|omega|decide):a∧b:=⟨u,h⟩
theorem aA.borG {P:Program}{f:FuncId}{hin:List Blk}{ys:List AV}{L:List Vs.Name}{d:Option Nat}{σ:St}{B:List Vs.Name}{K:St->Prop}{t:Tag K}{r:AV}{hout:List (Option Blk)} (u:Vs.Fn P f hin ys r hout) (F:iR (d.getD 0) B.length hout.length σ=true)
  (G:K ⟨put d (rn (phi B (d.getD 0) hout.length) r) σ.s,xB σ.h B (d.getD 0) hout true L⟩):aA P f hin ys L d σ B K t:=
 ⟨r,hout,true,u,λh=>(by cases h),F,G⟩
attribute [local go_sem] Int.reduceBEq Int.reduceBNe cC cO cFd aH Ai Ah Al Aq Ad Af Ac Ae Aa Ab Ao Ar Ay Az Bo Bq Vs.Name.t.injEq Ak AB Vs.Name.b.injEq in
theorem zH (x:Stp) (hz:x.text.size<=1048576) (o:Off) (w:Nat) (H:okO w o) (hv:dW x (wO o.trays)=true) (he:o.totals.length=0) (G:stC x o≠0):Vs.Fn Tryz.prog F.sW [.var [.loc (.b 1) 0 o.trays.length,.v (.slice none 0 0)] false,.arr 1 (E cD o.trays) false] [.ptr (.b 0) 0 0,.ro (cS x)] (.v (.int .i64 (stC x o))) ([.var [.loc (.b 1) 0 o.trays.length,.v (.slice none 0 0)] false,.arr 1 (E cD o.trays) false].map some):=by
 have U:=dC H;have hc:=H.2.1;have ha:=H.2.2.2.1;have u:=nC H hv;have ma:=dB u.a;have mb:=dB u.b;have ga:=dN u.a;have gb:=dN u.b;have gt:=dN u.to;have a0:=u.a.1;have a1:=u.a.2;have t0:=u.to.1;have t1:=u.to.2;have M:(E cD o.trays).length=o.trays.length:=aH _;have O:(E cTs o.totals).length=o.totals.length:=aH _;have J:(E cD o.trays).take o.trays.length=E cD o.trays:=Ag (by omega);have L:(E cTs o.totals).take o.totals.length=E cTs o.totals:=Ag (by omega);by_cases I:x.kind=7
 .have Z:(x.kind==7)=true:=Bj.2 I;unfold stC at G⊢;rw[AY I] at G⊢;rw[AJ (by omega:¬20<=o.totals.length)] at G⊢;have Y:decide (((0:Nat):Int)≥20)=false:=by decide
  have da:=H.2.2.1 _ ma;have V:=aCt (tr o.trays x.a) x.f0 x.f1 x.s0 x.s1 (bQ H.1.2 da) da.1 (yC (qD H ma) u.f) (aC1 (qD H ma) (u.n I));cases hb:nZ x.f0 x.f1 x.s0 x.s1 (tr o.trays x.a)
  .rw[aEA hb,hb] at V;simp only[A8,Bg] at V;rw[AJ (by decide)];refine fn1 CdV.l15Do_k [.b 0,.b 1] [.var [.loc (.b 1) 0 o.trays.length,.v (.slice none 0 0)] false,.arr 1 (E cD o.trays) false] λX=>?_;unfold CdV.l15Do
   repeat' first|simp -dsimp only[go_sem,Z,Y,ga,M,O,J,L,cS]|apply Br.mk<;>intro h<;>try simp -dsimp only[h]|refine aA.c (by first|exact V) ?_|refine aC ?_|refine aC9 ?_|fail
   all_goals first|omega|exact⟨_,_,rfl,rfl⟩
  .rw[AY hb] at G;exact absurd rfl G
 .have Z:(x.kind==7)=false:=Ap.2 I;have MK:=aFE x hz o.trays U.1.2 U.1.1 u.a u.b;rw[show stC x o=dkC x (tr o.trays x.a) (tr o.trays x.b) by unfold stC;rw[AJ I]] at G⊢;rw[aGY G] at MK;have e0:(dkC x (tr o.trays x.a) (tr o.trays x.b)==0)=false:=Ap.2 G;generalize dkC x (tr o.trays x.a) (tr o.trays x.b)=c at *
  refine fn1 CdV.l15Do_k [.b 0,.b 1] [.var [.loc (.b 1) 0 o.trays.length,.v (.slice none 0 0)] false,.arr 1 (E cD o.trays) false] λX=>?_;unfold CdV.l15Do
  repeat' first|simp -dsimp only[go_sem,Z,e0,M,O,J,L,cS]|apply Br.mk<;>intro h<;>try simp -dsimp only[h]|refine aA.borG (B:=[.b 0,.b 1]) (by first|exact MK) rfl ?_|refine aC ?_|refine aC9 ?_|fail
  all_goals first|omega|exact⟨_,_,rfl,rfl⟩
theorem zI (x:Stp) (hz:x.text.size<=1048576) (o:Off) (w:Nat) (H:okO w o) (hv:dW x (wO o.trays)=true) (he:o.totals.length=0) (Y:x.kind≠7) (I:stC x o=0):Vs.Fn Tryz.prog F.sW [.var [.loc (.b 1) 0 o.trays.length,.v (.slice none 0 0)] false,.arr 1 (E cD o.trays) false] [.ptr (.b 0) 0 0,.ro (cS x)] (.v (.int .i64 0)) ([.var [.loc (.b 1) 0 o.trays.length,.v (.slice none 0 0)] false,.arr 1 (E cD (o.trays.set x.to.toNat (dkL x (tr o.trays x.a) (tr o.trays x.b)))) false].map some):=by
 have G:=dC H;have ha:=H.2.1;have Z:=H.2.2.2.1;have u:=nC H hv;have ma:=dB u.a;have mb:=dB u.b;have ga:=dN u.a;have gb:=dN u.b;have gt:=dN u.to;have a0:=u.a.1;have a1:=u.a.2;have t0:=u.to.1;have t1:=u.to.2;have M:(E cD o.trays).length=o.trays.length:=aH _;have O:(E cTs o.totals).length=o.totals.length:=aH _;have J:(E cD o.trays).take o.trays.length=E cD o.trays:=Ag (by omega);have L:(E cTs o.totals).take o.totals.length=E cTs o.totals:=Ag (by omega);have e7:(x.kind==7)=false:=Ap.2 Y;have V:=aFE x hz o.trays G.1.2 G.1.1 u.a u.b;rw[show stC x o=dkC x (tr o.trays x.a) (tr o.trays x.b) by unfold stC;rw[AJ Y]] at I;rw[aGX I,I] at V;generalize dkL x (tr o.trays x.a) (tr o.trays x.b)=D at *
 have U:=aHb o.trays x.to.toNat D;refine fn1 CdV.l15Do_k [.b 0,.b 1] [.var [.loc (.b 1) 0 o.trays.length,.v (.slice none 0 0)] false,.arr 1 (E cD (o.trays.set x.to.toNat D)) false] λX=>?_;unfold CdV.l15Do
 repeat' first|simp -dsimp only[go_sem,e7,gt,M,O,U,J,L,Int.reduceBEq,Int.reduceBNe,cC,cO,cS,cFd,aH,Ai,Ah,Al,Aq,Ad,Af,Ac,Ae,Aa,Ab,Ao,Ar,Ay,Az,Bo,Bq,Vs.Name.t.injEq,Ak,AB,Vs.Name.b.injEq]|apply Br.mk<;>intro h<;>try simp -dsimp only[h]|refine aA.borG (B:=[.b 0,.b 1]) (by first|exact V) rfl ?_|refine aC ?_|refine aC9 ?_|fail
 all_goals first|omega|exact⟨_,_,rfl,rfl⟩
theorem wC (x:Stp) (hz:x.text.size<=1048576) (o:Off) (w:Nat) (G:okO w o) (hv:dW x (wO o.trays)=true) (he:o.totals.length=0) (U:x.kind=7) (H:stC x o=0):Vs.Fn Tryz.prog F.sW [.var [.loc (.b 1) 0 o.trays.length,.v (.slice none 0 0)] false,.arr 1 (E cD o.trays) false] [.ptr (.b 0) 0 0,.ro (cS x)] (.v (.int .i64 0)) [some (.var [.loc (.b 1) 0 o.trays.length,.loc (.b 2) 0 (o.totals.length+1)] false),some (.arr 1 (E cD o.trays) false),some (.arr 1 (E cTs (o.totals++[o7 x.f0 x.f1 x.s0 x.s1 (tr o.trays x.a)])) false)]:=by
 have hf:=dC G;have hd:=G.2.1;have hc:=G.2.2.2.1;have u:=nC G hv;have ma:=dB u.a;have mb:=dB u.b;have ga:=dN u.a;have gb:=dN u.b;have gt:=dN u.to;have a0:=u.a.1;have a1:=u.a.2;have t0:=u.to.1;have t1:=u.to.2;have Z:(E cD o.trays).length=o.trays.length:=aH _;have ha:(E cTs o.totals).length=o.totals.length:=aH _;have V:(E cD o.trays).take o.trays.length=E cD o.trays:=Ag (by omega);have Y:(E cTs o.totals).take o.totals.length=E cTs o.totals:=Ag (by omega);have e7:(x.kind==7)=true:=Bj.2 U;unfold stC at H;rw[AY U] at H;have O:¬20<=o.totals.length:=by intro h;rw[AY h] at H;cases H
 rw[AJ O] at H;have I:decide ((o.totals.length:Int)≥20)=false:=AX (by omega)
 have L:nZ x.f0 x.f1 x.s0 x.s1 (tr o.trays x.a)=true:=by
  cases L:nZ x.f0 x.f1 x.s0 x.s1 (tr o.trays x.a)
  .rw[L] at H;cases H
  .rfl
 have da:=G.2.2.1 _ ma;have M:=aCt (tr o.trays x.a) x.f0 x.f1 x.s0 x.s1 (bQ G.1.2 da) da.1 (yC (qD G ma) u.f) (aC1 (qD G ma) (u.n U));rw[aEz L,L] at M;simp only[Bt] at M;have J:=aK1 o.totals (o7 x.f0 x.f1 x.s0 x.s1 (tr o.trays x.a));have I:decide (((0:Nat):Int)≥20)=false:=by decide
 have J:[[.sl 2 (E cT (o7 x.f0 x.f1 x.s0 x.s1 (tr o.trays x.a)))]]=E cTs (o.totals++[o7 x.f0 x.f1 x.s0 x.s1 (tr o.trays x.a)]):=by rw[Bl he];rfl
 refine CdV.l15Do_k.o.fnD Tryz.mixed (hin:=[.var [.loc (.b 1) 0 o.trays.length,.v (.slice none 0 0)] false,.arr 1 (E cD o.trays) false]) (args:=[.ptr (.b 0) 0 0,.ro (cS x)]) _ _ [.b 0,.b 1,.t 51 0] [some (.var [.loc (.b 1) 0 o.trays.length,.loc (.b 2) 0 (o.totals.length+1)] false),some (.arr 1 (E cD o.trays) false),some (.arr 1 (E cTs (o.totals++[o7 x.f0 x.f1 x.s0 x.s1 (tr o.trays x.a)])) false)] CdV.l15Do_k.n CdV.l15Do_k.r rfl rfl (by intro j hj;rcases j with _|_|_|j<;>first|rfl|(simp at hj;done)|(simp at hj;omega)) λX=>?_;unfold CdV.l15Do
 repeat' first|simp -dsimp only[go_sem,e7,I,ga,Z,ha,J,V,Y,he,BF,Int.reduceBEq,Int.reduceBNe,cC,cO,cS,cFd,aH,Ai,Ah,Al,Aq,Ad,Af,Ac,Ae,Aa,Ab,Ao,Ar,Ay,Az,Bo,Bq,Vs.Name.t.injEq,Ak,AB,Vs.Name.b.injEq]|apply Br.mk<;>intro h<;>try simp -dsimp only[h]|refine aA.c (by first|exact M) ?_|refine aC ?_|refine aC9 ?_|fail
 all_goals first|omega|exact⟨_,_,rfl,rfl⟩
attribute [local go_sem] Int.reduceBEq Int.reduceBNe cC cO cFd aH Ai Ah Al Aq Ad Af Ac Ae Aa Ab Ao Ar Ay Az Bo Bq Vs.Name.t.injEq Ak AB Vs.Name.b.injEq in
theorem zF (x:Stp) (hz:x.text.size<=1048576) (o:Off) (w:Nat) (H:okO w o) (hv:dW x (wO o.trays)=true) (G:stC x o≠0):Vs.Fn Tryz.prog F.sW [.var [.loc (.b 1) 0 o.trays.length,.loc (.b 2) 0 o.totals.length] false,.arr 1 (E cD o.trays) false,.arr 1 (E cTs o.totals) false] [.ptr (.b 0) 0 0,.ro (cS x)] (.v (.int .i64 (stC x o))) ([.var [.loc (.b 1) 0 o.trays.length,.loc (.b 2) 0 o.totals.length] false,.arr 1 (E cD o.trays) false,.arr 1 (E cTs o.totals) false].map some):=by
 have Y:=dC H;have hc:=H.2.1;have ha:=H.2.2.2.1;have u:=nC H hv;have ma:=dB u.a;have mb:=dB u.b;have ga:=dN u.a;have gb:=dN u.b;have gt:=dN u.to;have a0:=u.a.1;have a1:=u.a.2;have t0:=u.to.1;have t1:=u.to.2;have M:(E cD o.trays).length=o.trays.length:=aH _;have O:(E cTs o.totals).length=o.totals.length:=aH _;have J:(E cD o.trays).take o.trays.length=E cD o.trays:=Ag (by omega);have L:(E cTs o.totals).take o.totals.length=E cTs o.totals:=Ag (by omega);by_cases V:x.kind=7
 .have Z:(x.kind==7)=true:=Bj.2 V;unfold stC at G⊢;rw[AY V] at G⊢;by_cases U:20<=o.totals.length
  .have I:decide ((o.totals.length:Int)≥20)=true:=AR (by omega);rw[AY U];refine fn1 CdV.l15Do_k [.b 0,.b 1,.b 2] [.var [.loc (.b 1) 0 o.trays.length,.loc (.b 2) 0 o.totals.length] false,.arr 1 (E cD o.trays) false,.arr 1 (E cTs o.totals) false] λX=>?_;unfold CdV.l15Do
   repeat' first|simp -dsimp only[go_sem,Z,I,M,O,J,L,cS]|apply Br.mk<;>intro h<;>try simp -dsimp only[h]|refine aC ?_|refine aC9 ?_|fail
   all_goals first|omega|exact⟨_,_,rfl,rfl⟩
  rw[AJ U] at G⊢;have I:decide ((o.totals.length:Int)≥20)=false:=AX (by omega);have da:=H.2.2.1 _ ma;have TO:=aCt (tr o.trays x.a) x.f0 x.f1 x.s0 x.s1 (bQ H.1.2 da) da.1 (yC (qD H ma) u.f) (aC1 (qD H ma) (u.n V));cases hb:nZ x.f0 x.f1 x.s0 x.s1 (tr o.trays x.a)
  .rw[aEA hb,hb] at TO;simp only[A8,Bg] at TO;rw[AJ (by decide)];refine fn1 CdV.l15Do_k [.b 0,.b 1,.b 2] [.var [.loc (.b 1) 0 o.trays.length,.loc (.b 2) 0 o.totals.length] false,.arr 1 (E cD o.trays) false,.arr 1 (E cTs o.totals) false] λX=>?_;unfold CdV.l15Do
   repeat' first|simp -dsimp only[go_sem,Z,I,ga,M,O,J,L,cS]|apply Br.mk<;>intro h<;>try simp -dsimp only[h]|refine aA.c (by first|exact TO) ?_|refine aC ?_|refine aC9 ?_|fail
   all_goals first|omega|exact⟨_,_,rfl,rfl⟩
  .rw[AY hb] at G;exact absurd rfl G
 .have Z:(x.kind==7)=false:=Ap.2 V;have MK:=aFF x hz o.trays Y.1.2 Y.1.1 u.a u.b o.totals;rw[show stC x o=dkC x (tr o.trays x.a) (tr o.trays x.b) by unfold stC;rw[AJ V]] at G⊢;rw[aGY G] at MK;have e0:(dkC x (tr o.trays x.a) (tr o.trays x.b)==0)=false:=Ap.2 G;generalize dkC x (tr o.trays x.a) (tr o.trays x.b)=c at *
  refine fn1 CdV.l15Do_k [.b 0,.b 1,.b 2] [.var [.loc (.b 1) 0 o.trays.length,.loc (.b 2) 0 o.totals.length] false,.arr 1 (E cD o.trays) false,.arr 1 (E cTs o.totals) false] λX=>?_;unfold CdV.l15Do
  repeat' first|simp -dsimp only[go_sem,Z,e0,M,O,J,L,cS]|apply Br.mk<;>intro h<;>try simp -dsimp only[h]|refine aA.borG (B:=[.b 0,.b 1,.b 2]) (by first|exact MK) rfl ?_|refine aC ?_|refine aC9 ?_|fail
  all_goals first|omega|exact⟨_,_,rfl,rfl⟩
theorem zG (x:Stp) (hz:x.text.size<=1048576) (o:Off) (w:Nat) (H:okO w o) (hv:dW x (wO o.trays)=true) (Y:x.kind≠7) (I:stC x o=0):Vs.Fn Tryz.prog F.sW [.var [.loc (.b 1) 0 o.trays.length,.loc (.b 2) 0 o.totals.length] false,.arr 1 (E cD o.trays) false,.arr 1 (E cTs o.totals) false] [.ptr (.b 0) 0 0,.ro (cS x)] (.v (.int .i64 0)) ([.var [.loc (.b 1) 0 o.trays.length,.loc (.b 2) 0 o.totals.length] false,.arr 1 (E cD (o.trays.set x.to.toNat (dkL x (tr o.trays x.a) (tr o.trays x.b)))) false,.arr 1 (E cTs o.totals) false].map some):=by
 have G:=dC H;have ha:=H.2.1;have Z:=H.2.2.2.1;have u:=nC H hv;have ma:=dB u.a;have mb:=dB u.b;have ga:=dN u.a;have gb:=dN u.b;have gt:=dN u.to;have a0:=u.a.1;have a1:=u.a.2;have t0:=u.to.1;have t1:=u.to.2;have M:(E cD o.trays).length=o.trays.length:=aH _;have O:(E cTs o.totals).length=o.totals.length:=aH _;have J:(E cD o.trays).take o.trays.length=E cD o.trays:=Ag (by omega);have L:(E cTs o.totals).take o.totals.length=E cTs o.totals:=Ag (by omega);have e7:(x.kind==7)=false:=Ap.2 Y;have V:=aFF x hz o.trays G.1.2 G.1.1 u.a u.b o.totals;rw[show stC x o=dkC x (tr o.trays x.a) (tr o.trays x.b) by unfold stC;rw[AJ Y]] at I;rw[aGX I,I] at V;generalize dkL x (tr o.trays x.a) (tr o.trays x.b)=D at *
 have U:=aHb o.trays x.to.toNat D;refine fn1 CdV.l15Do_k [.b 0,.b 1,.b 2] [.var [.loc (.b 1) 0 o.trays.length,.loc (.b 2) 0 o.totals.length] false,.arr 1 (E cD (o.trays.set x.to.toNat D)) false,.arr 1 (E cTs o.totals) false] λX=>?_;unfold CdV.l15Do
 repeat' first|simp -dsimp only[go_sem,e7,gt,M,O,U,J,L,Int.reduceBEq,Int.reduceBNe,cC,cO,cS,cFd,aH,Ai,Ah,Al,Aq,Ad,Af,Ac,Ae,Aa,Ab,Ao,Ar,Ay,Az,Bo,Bq,Vs.Name.t.injEq,Ak,AB,Vs.Name.b.injEq]|apply Br.mk<;>intro h<;>try simp -dsimp only[h]|refine aA.borG (B:=[.b 0,.b 1,.b 2]) (by first|exact V) rfl ?_|refine aC ?_|refine aC9 ?_|fail
 all_goals first|omega|exact⟨_,_,rfl,rfl⟩
theorem vZ (x:Stp) (hz:x.text.size<=1048576) (o:Off) (w:Nat) (G:okO w o) (hv:dW x (wO o.trays)=true) (O:x.kind=7) (H:stC x o=0):Vs.Fn Tryz.prog F.sW [.var [.loc (.b 1) 0 o.trays.length,.loc (.b 2) 0 o.totals.length] false,.arr 1 (E cD o.trays) false,.arr 1 (E cTs o.totals) false] [.ptr (.b 0) 0 0,.ro (cS x)] (.v (.int .i64 0)) [some (.var [.loc (.b 1) 0 o.trays.length,.loc (.b 3) 0 (o.totals.length+1)] false),some (.arr 1 (E cD o.trays) false),none,some (.arr 1 (E cTs (o.totals++[o7 x.f0 x.f1 x.s0 x.s1 (tr o.trays x.a)])) false)]:=by
 have he:=dC G;have hd:=G.2.1;have hc:=G.2.2.2.1;have u:=nC G hv;have ma:=dB u.a;have mb:=dB u.b;have ga:=dN u.a;have gb:=dN u.b;have gt:=dN u.to;have a0:=u.a.1;have a1:=u.a.2;have t0:=u.to.1;have t1:=u.to.2;have Y:(E cD o.trays).length=o.trays.length:=aH _;have Z:(E cTs o.totals).length=o.totals.length:=aH _;have U:(E cD o.trays).take o.trays.length=E cD o.trays:=Ag (by omega);have V:(E cTs o.totals).take o.totals.length=E cTs o.totals:=Ag (by omega);have e7:(x.kind==7)=true:=Bj.2 O;unfold stC at H;rw[AY O] at H;have M:¬20<=o.totals.length:=by intro h;rw[AY h] at H;cases H
 rw[AJ M] at H;have L:decide ((o.totals.length:Int)≥20)=false:=AX (by omega)
 have I:nZ x.f0 x.f1 x.s0 x.s1 (tr o.trays x.a)=true:=by
  cases I:nZ x.f0 x.f1 x.s0 x.s1 (tr o.trays x.a)
  .rw[I] at H;cases H
  .rfl
 have da:=G.2.2.1 _ ma;have J:=aCt (tr o.trays x.a) x.f0 x.f1 x.s0 x.s1 (bQ G.1.2 da) da.1 (yC (qD G ma) u.f) (aC1 (qD G ma) (u.n O));rw[aEz I,I] at J;simp only[Bt] at J;have ha:=aK1 o.totals (o7 x.f0 x.f1 x.s0 x.s1 (tr o.trays x.a));refine CdV.l15Do_k.o.fnD Tryz.mixed (hin:=[.var [.loc (.b 1) 0 o.trays.length,.loc (.b 2) 0 o.totals.length] false,.arr 1 (E cD o.trays) false,.arr 1 (E cTs o.totals) false]) (args:=[.ptr (.b 0) 0 0,.ro (cS x)]) _ _ [.b 0,.b 1,.b 2,.t 51 0] [some (.var [.loc (.b 1) 0 o.trays.length,.loc (.b 3) 0 (o.totals.length+1)] false),some (.arr 1 (E cD o.trays) false),none,some (.arr 1 (E cTs (o.totals++[o7 x.f0 x.f1 x.s0 x.s1 (tr o.trays x.a)])) false)] CdV.l15Do_k.n CdV.l15Do_k.r rfl rfl (by intro j hj;rcases j with _|_|_|j<;>first|rfl|(simp at hj;done)|(simp at hj;omega)) λX=>?_;unfold CdV.l15Do
 repeat' first|simp -dsimp only[go_sem,e7,L,ga,Y,Z,ha,U,V,Int.reduceBEq,Int.reduceBNe,cC,cO,cS,cFd,aH,Ai,Ah,Al,Aq,Ad,Af,Ac,Ae,Aa,Ab,Ao,Ar,Ay,Az,Bo,Bq,Vs.Name.t.injEq,Ak,AB,Vs.Name.b.injEq]|apply Br.mk<;>intro h<;>try simp -dsimp only[h]|refine aA.c (by first|exact J) ?_|refine aC ?_|refine aC9 ?_|fail
 all_goals first|omega|exact⟨_,_,rfl,rfl⟩
end
section
variable [Vs.Envs]
attribute [local irreducible] Vs.Fn chOK areCh chTo chAt l03 chB rk cd3 chI stp stpTo
def T0 (l:List (List Int)):List (List (List Int)):=l::List.replicate 5 []
def O0 (l:List (List Int)):Off:=⟨T0 l,[]⟩
def TK (l:List (List Int)) (k:Nat):List (List (List Int)):=l::List.replicate k []
theorem aKX (l:List (List Int)) (k:Nat):(TK l k).length=k+1:=by unfold TK;rw[Aa,Dg]
theorem E_snN (l:List (List Int)) (k:Nat):E cD (TK l k)++[[.sl 1 []]]=E cD (TK l (k+1)):=by
 unfold TK;rw[List.replicate_succ',←Ad,aS];rfl
attribute [local go_sem] Int.reduceBEq Int.reduceBNe cO cS cFd aH Ai Ah Al Aq Ad Af Ac Ae Aa Ab Ao Ar Ay Az Bo Bq Vs.Name.t.injEq Ak AB Vs.Name.b.injEq in
theorem aJ2 (l:List (List Int)) (M:bE l):Fz F.uJ [.sl 1 (E cC l)] (.agg [.sl 1 (E cD (T0 l)),.v (.slice none 0 0)]):=by
 have L:=aCv l M;refine fn0 Cd.s_l15New_k λX=>?_
 repeat' first|simp -dsimp only[go_sem,cC]|apply Br.mk<;>intro h<;>try simp -dsimp only[h]|refine aA.c (by first|exact L) ?_|refine aC ?_|refine aC9 ?_|fail
 have V:([[.sl 1 (E cC l)]]:List (List AV))=E cD (TK l 0):=rfl;refine aO.atR dM (X:={k:Nat // k<=5}) (λk=>[(4,.v (.int .i64 (k.1+1:Nat)))]) (λk=>[(.t 3 0,.var [.loc (.t 7 0) 0 (k.1+1),.v (.slice none 0 0)] false),(.t 7 0,.arr 1 (E cD (TK l k.1)) false)]) (λk=>5-k.1) ⟨0,by omega⟩ ?_ ?_
 .simp[Vs.LeL,Vs.look,aB,aP,aJ,Vs.hset,aK,Vs.E,cD,TK]
 .rintro⟨k,hi⟩
  try dsimp only at hi
  try simp -dsimp only[go_sem,cC]
  refine Br.mk (λH=>?_) λH=>?_
  .have O:k<5:=by first|(simp at H;omega)|omega
   have U:IntKind.i64.wrap ((k+1:Nat)+1:Int)=((k+1+1:Nat):Int):=by rw[aM (by omega) (by omega)];omega
   have u:=E_snN l k;have G:(E cD (TK l k)).length=k+1:=by rw[aH,aKX]
   repeat' first|simp -dsimp only[go_sem,U,u,G,cC]|apply Br.mk<;>intro h<;>try simp -dsimp only[h]|refine aC ?_|refine aC9 ?_|refine⟨[],rfl,rfl,?_⟩|fail
   all_goals first|omega|(refine⟨⟨k+1,by omega⟩,.inr ⟨.t 17 0,.t 7 0,by decide,rfl,?_⟩,by simp only;omega⟩;simp[oU,Vs.nmF,Vs.rn,Vs.rnL,Vs.rnB,Vs.LeL,Vs.look,aB,aP,aJ,Vs.hset,aK,u];done)
  .have I:k=5:=by
    have:¬k<5:=by first|(simp at H;omega)|omega
    omega
   subst I;have G:(E cD (TK l 5)).length=6:=by rw[aH,aKX]
   have J:(E cD (TK l 5)).take 6=E cD (TK l 5):=Ag (by omega);rw[show T0 l=TK l 5 from rfl]
   repeat' first|simp -dsimp only[go_sem,G,J,cC]|apply Br.mk<;>intro h<;>try simp -dsimp only[h]|refine And.intro ?_ (λh=>absurd rfl h)|refine aC ?_|refine aC9 ?_|fail
   all_goals first|omega|exact⟨_,_,rfl,rfl⟩|exact⟨⟨_,_,rfl,rfl⟩,λh=>h rfl⟩
end
section
variable [Vs.Envs]
attribute [local irreducible] Vs.Fn chOK areCh chTo chAt l03 chB rk cd3 chI stp stpTo
end
end Go.Proofs.YtmiiohemehacjaaGreatDoor
