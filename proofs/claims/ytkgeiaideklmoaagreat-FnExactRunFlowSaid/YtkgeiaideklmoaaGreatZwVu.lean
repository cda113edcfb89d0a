/- A flow run by the program. -/
import Derived.Test.YtkgeiaideklmoaaGreatZwVm
import Derived.Test.YtkgeiaideklmoaaGreatZwVl
import Derived.Test.YtkgeiaideklmoaaGreatZwVq
set_option linter.all false
set_option maxHeartbeats 8000000
namespace Go.Proofs.YtkgeiaideklmoaaGreat
open Go.Vs
section
variable [Vs.Envs]
attribute [local irreducible] Vs.Fn bA mgC iM mtC iP flt dI oC mat bK aO bL bM l03 chB rk cd3 chI stp aP
theorem aAT (x:Stp) (hz:x.text.size<=1048576) (T:List (List (List Int))) (hs:∀d,d∈T->aZ d) (hl:T.length<=1048576) (iA:0<=x.a∧x.a<(T.length:Int)) (iB:0<=x.b∧x.b<(T.length:Int)) (L:List (List Tot)):Vs.Fn Tryz.prog F.oJ [.var [.loc (.b 1) 0 T.length,.v (.slice none 0 0)] false,.arr 1 (E cD T) false] [.ptr (.b 0) 0 0,.ro (cS x)] (.tup [dkV x (tr T x.a) (tr T x.b),.v (.int .i64 (dkC x (tr T x.a) (tr T x.b)))]) ([.var [.loc (.b 1) 0 T.length,.v (.slice none 0 0)] false,.arr 1 (E cD T) false].map some)∧Vs.Fn Tryz.prog F.oJ [.var [.loc (.b 1) 0 T.length,.loc (.b 2) 0 L.length] false,.arr 1 (E cD T) false,.arr 1 (E cTs L) false] [.ptr (.b 0) 0 0,.ro (cS x)] (.tup [dkV x (tr T x.a) (tr T x.b),.v (.int .i64 (dkC x (tr T x.a) (tr T x.b)))]) ([.var [.loc (.b 1) 0 T.length,.loc (.b 2) 0 L.length] false,.arr 1 (E cD T) false,.arr 1 (E cTs L) false].map some):=by
 have O:=hs _ (gJ iA);have sb:=hs _ (gJ iB);have gA:=iK iA;have gB:=iK iB;have a0:=iA.1;have a1:=iA.2;have b0:=iB.1;have b1:=iB.2;obtain⟨q1,e1⟩:∃q,(x.kind==1)=q:=⟨_,rfl⟩;obtain⟨q2,e2⟩:∃q,(x.kind==2)=q:=⟨_,rfl⟩;obtain⟨q5,e5⟩:∃q,(x.kind==5)=q:=⟨_,rfl⟩;obtain⟨q6,e6⟩:∃q,(x.kind==6)=q:=⟨_,rfl⟩;obtain⟨q3,e3⟩:∃q,(x.kind==3)=q:=⟨_,rfl⟩;obtain⟨q0,e0⟩:∃q,(mtC x.f0 x.f1 (tr T x.a) (tr T x.b) != 0)=q:=⟨_,rfl⟩;have ha:(mtL x.f0 x.f1 (tr T x.a) (tr T x.b)).length=4:=rfl;have m0:(E cD (mtL x.f0 x.f1 (tr T x.a) (tr T x.b))).getD 0 []=[.sl 1 (E cC (mat x.f0 x.f1 (tr T x.a) (tr T x.b) true))]:=rfl;have m2:(E cD (mtL x.f0 x.f1 (tr T x.a) (tr T x.b))).getD 2 []=[.sl 1 (E cC (mat x.f0 x.f1 (tr T x.a) (tr T x.b) false))]:=rfl;cases q1
 rotate_left
 have U:x.kind=1:=by simpa using e1
 have J:=aDz (tr T x.a) x.f0 x.f1 O.2 O.1;have H:xK x.f0 x.f1 (tr T x.a)=.sl 1 (E cC (iP x.f0 x.f1 (tr T x.a)))∨xK x.f0 x.f1 (tr T x.a)=.v (.slice none 0 0):=by unfold xK;split<;>simp
 have I:dkC x (tr T x.a) (tr T x.b)=bA x.f0 x.f1 (tr T x.a):=by simp[dkC,U]
 rw[show dkV x (tr T x.a) (tr T x.b)=xK x.f0 x.f1 (tr T x.a) by unfold dkV xK;rw[I,show dkL x (tr T x.a) (tr T x.b)=iP x.f0 x.f1 (tr T x.a) by simp[dkL,U]],I];generalize bA x.f0 x.f1 (tr T x.a)=c at *
 rcases H with H|H<;>rw[H] at J⊢
 rotate_right
 have U:x.kind≠1:=by simpa using e1
 cases q2
 rotate_left
 have h2:x.kind=2:=by simpa using e2
 have J:=aB0 (tr T x.a) (tr T x.b) x.f0 x.f1 O sb;have H:mgV x.f0 x.f1 (tr T x.a) (tr T x.b)=.sl 1 (E cC (iP x.f0 x.f1 (tr T x.a++tr T x.b)))∨mgV x.f0 x.f1 (tr T x.a) (tr T x.b)=.v (.slice none 0 0):=by unfold mgV;split<;>simp
 have I:dkC x (tr T x.a) (tr T x.b)=mgC x.f0 x.f1 (tr T x.a) (tr T x.b):=by simp[dkC,h2]
 rw[show dkV x (tr T x.a) (tr T x.b)=mgV x.f0 x.f1 (tr T x.a) (tr T x.b) by unfold dkV mgV;rw[I,show dkL x (tr T x.a) (tr T x.b)=iP x.f0 x.f1 (tr T x.a++tr T x.b) by simp[dkL,h2]],I];generalize mgC x.f0 x.f1 (tr T x.a) (tr T x.b)=c at *
 rcases H with H|H<;>rw[H] at J⊢
 rotate_right
 have h2:x.kind≠2:=by simpa using e2
 cases q5
 rotate_left
 have Y:x.kind=5:=by simpa using e5
 have J:=aBh (tr T x.a) x.f0 x.f1 x.text O hz;have H:uK x.f0 x.f1 x.text (tr T x.a)=.sl 1 (E cC (flt (dI x.f0 x.f1 x.text) (tr T x.a)))∨uK x.f0 x.f1 x.text (tr T x.a)=.v (.slice none 0 0):=by unfold uK;split<;>simp
 have I:dkC x (tr T x.a) (tr T x.b)=iM x.f0 x.f1 x.text (tr T x.a):=by simp[dkC,Y]
 rw[show dkV x (tr T x.a) (tr T x.b)=uK x.f0 x.f1 x.text (tr T x.a) by unfold dkV uK;rw[I,show dkL x (tr T x.a) (tr T x.b)=flt (dI x.f0 x.f1 x.text) (tr T x.a) by simp[dkL,Y]],I];generalize iM x.f0 x.f1 x.text (tr T x.a)=c at *
 rcases H with H|H<;>rw[H] at J⊢
 rotate_right
 have Y:x.kind≠5:=by simpa using e5
 cases q6
 rotate_left
 have Z:x.kind=6:=by simpa using e6
 have J:=aAb (tr T x.a) x.f0 x.f1 O;have H:yG x.f0 x.f1 (tr T x.a)=.sl 1 (E cC (oC x.f0 x.f1 (tr T x.a)))∨yG x.f0 x.f1 (tr T x.a)=.v (.slice none 0 0):=by unfold yG;split<;>simp
 have I:dkC x (tr T x.a) (tr T x.b)=bA x.f0 x.f1 (tr T x.a):=by simp[dkC,Z]
 rw[show dkV x (tr T x.a) (tr T x.b)=yG x.f0 x.f1 (tr T x.a) by unfold dkV yG;rw[I,show dkL x (tr T x.a) (tr T x.b)=oC x.f0 x.f1 (tr T x.a) by simp[dkL,Z]],I];generalize bA x.f0 x.f1 (tr T x.a)=c at *
 rcases H with H|H<;>rw[H] at J⊢
 rotate_right
 have Z:x.kind≠6:=by simpa using e6
 have I:dkC x (tr T x.a) (tr T x.b)=mtC x.f0 x.f1 (tr T x.a) (tr T x.b):=by simp[dkC,U,h2,Y,Z]
 have J:=aB1 (tr T x.a) (tr T x.b) x.f0 x.f1 O sb;cases q0
 rotate_left
 have h0:mtC x.f0 x.f1 (tr T x.a) (tr T x.b)≠0:=by simpa using e0
 rw[show mtV x.f0 x.f1 (tr T x.a) (tr T x.b)=.v (.slice none 0 0) by simp[mtV,h0]] at J;rw[show dkV x (tr T x.a) (tr T x.b)=.v (.slice none 0 0) by unfold dkV;rw[I,AB h0],I];generalize mtC x.f0 x.f1 (tr T x.a) (tr T x.b)=c at *
 rotate_right
 have h0:mtC x.f0 x.f1 (tr T x.a) (tr T x.b)=0:=by simpa using e0
 rw[show mtV x.f0 x.f1 (tr T x.a) (tr T x.b)=.sl 1 (E cD (mtL x.f0 x.f1 (tr T x.a) (tr T x.b))) by simp[mtV,h0],h0] at J;have hV:dkV x (tr T x.a) (tr T x.b)=.sl 1 (E cC (if x.kind=3 then mat x.f0 x.f1 (tr T x.a) (tr T x.b) true else mat x.f0 x.f1 (tr T x.a) (tr T x.b) false)):=by unfold dkV;rw[I,AP h0];simp only[dkL,U,h2,Y,Z,Bd]
 rw[hV,I,h0];generalize mtL x.f0 x.f1 (tr T x.a) (tr T x.b)=ML at *
 cases q3;rw[AB (by simpa using e3)]
 rotate_left
 rw[AP (by simpa using e3)]
 all_goals refine⟨?_,?_⟩
 all_goals first|(refine fn1 Cd.s_l15Make_k [.b 0,.b 1] [.var [.loc (.b 1) 0 T.length,.v (.slice none 0 0)] false,.arr 1 (E cD T) false] λX=>?_)|(refine fn1 Cd.s_l15Make_k [.b 0,.b 1,.b 2] [.var [.loc (.b 1) 0 T.length,.loc (.b 2) 0 L.length] false,.arr 1 (E cD T) false,.arr 1 (E cTs L) false] λX=>?_)
 all_goals
  unfold Cd.oJ
  repeat' first|simp -dsimp only[go_sem,e1,e2,e5,e6,e3,e0,gA,gB,m0,m2,ha,Int.reduceBEq,Int.reduceBNe,cS,cO,cFd,aH,Af,Ag,Al,Aq,Ae,Ai,Ac,Ak,Ab,Ah,Am,Au,Ap,Ao,AX,BH,Vs.Name.t.injEq,Vs.Name.b.injEq,Aw,A9]|apply Br.mk<;>intro h<;>try simp -dsimp only[h]|refine aB.c (by first|exact J) ?_|refine aC ?_|fail
 all_goals first|omega|exact⟨_,_,rfl,rfl⟩
end
section
variable [Vs.Envs]
attribute [local irreducible] Vs.Fn bK aO bL bM l03 chB rk cd3 chI stp aP
theorem aNH {k:Nat}{S:Nat->Prop}{w:World}{v:Value} (h:RC S w (.v (.slice none 0 0)) v):RC S w (.sl k []) v:=by
 cases h;exact RC.sl k [] none 0 0 0 (λ_=>undef) (λh=>absurd rfl h) (λi j h=>by simp at h) (λi j h=>by simp at h) (λi j h=>by simp at h) (λi h=>by simp at h) ⟨Ar _,by decide⟩
theorem aME {P:Program}{f:FuncId}{hin:List Blk}{args args':List AV}{r:AV}{F:List (Option Blk)} (U:args.length=args'.length)
  (h:∀(S:Nat->Prop) (w:World) (j:Nat) (v:Value),j<args.length->(∀ρ κ I,RV S w ρ κ I (args.getD j .junk) v->RV S w ρ κ I (args'.getD j .junk) v)) (H:Vs.Fn P f hin args' r F):Vs.Fn P f hin args r F:=by
 unfold Vs.Fn at H⊢;exact⟨H.1,λS w ρ κ vs J h2 L O=>H.2 S w ρ κ vs J h2 (L.trans U) λj Y=>h S w j _ (by omega) ρ κ _ (O j (by omega))⟩
theorem aNy {S:Nat->Prop}{w:World}{x:AV}{k:Nat}{v:Value}{ρ:Vs.Name->Option Nat}{κ:Vs.Name->Nat}{F:Vs.Name->Option Blk} (h:RV S w ρ κ F (.ro [x,.v (.slice none 0 0)]) v):RV S w ρ κ F (.ro [x,.sl k []]) v:=by
 have h:=wQ h;refine .clo ?_;generalize H:[x,AV.v (.slice none 0 0)]=c at h;cases h with
 | ro c y off xs hS h1 h2 h3 =>
  subst H;refine .ro _ y off xs hS h1 h2 λj I=>?_
  match j,I with
  |0,_=>exact h3 0 (by simp)
  |1,_=>exact aNH (h3 1 (by simp))
def gA (n:Vs.Name) (i:Nat):AV:=if i=0 then .v (.slice none 0 0) else .loc n 0 i
def gH (n:Vs.Name) (rows:List (List AV)) (i:Nat):List (Vs.Name×Blk):=if i=0 then[] else[(n,.arr 1 rows false)]
attribute [local go_sem] Int.reduceBEq Int.reduceBNe cC cTs aH Af Ag Al Aq Ae Ai Ac Ak Ab Ah Am Au Ap Ao AX BH Vs.Name.t.injEq in
theorem aMu (o:Off) (ho:dY o) (he:0<o.trays.length) (hc:o.totals.length=0):Vs.Fn Tryz.prog F.qA [] [.ro (cO o)] (.agg [.loc (.b 0) 0 o.trays.length,.v (.slice none 0 0)]) [some (.arr 1 (E cD o.trays) false)]:=by
 have hn:=ho.1.1;have hm:=ho.2.1;refine fn1 Cd.s_l15Own_k [.t 27 0] [.arr 1 (E cD o.trays) false] λX=>?_;unfold Cd.qA
 repeat' first|simp -dsimp only[go_sem,cO,cD]|apply Br.mk<;>intro h<;>try simp -dsimp only[h]|refine aC ?_|fail
 refine aM.at dM (X:={i:Nat // i<=o.trays.length}) (λi=>[(4,.v (.int .i64 (i.1:Nat)))]) (λi=>(.t 3 0,.var [gA (.t 27 0) i.1,.v (.slice none 0 0)] false)::gH (.t 27 0) (E cD (o.trays.take i.1)) i.1) (λi=>o.trays.length-i.1) ⟨0,by omega⟩ ?_ ?_
 .simp[Vs.LeL,Vs.look,aA,aS,aJ,Vs.hset,aK,gA,gH]
 .rintro⟨i,hi⟩
  try dsimp only at hi
  by_cases L:i<o.trays.length
  .have O:decide ((i:Int)<(o.trays.length:Int))=true:=A7 (by omega);have hw:=aG L (by omega);have J:=aLz L;have H:=aFc L;have ha:(E cD (o.trays.take i)).length=i:=by rw[aH];simp;omega
   have Z:(o.trays.take i).length=i:=by simp;omega
   have CP:=aEY o.trays[i] (ho.1.2 _ (Aa L));by_cases I:i=0
   .have U:gA (.t 27 0) i=.v (.slice none 0 0):=by simp[gA,I]
    have Y:gH (.t 27 0) (E cD (o.trays.take i)) i=[]:=by simp[gH,I]
    have hb:E cD (o.trays.take i)=[]:=by rw[I];rfl
    rw[hb,Ai] at H;rw[U,Y];simp -dsimp only[go_sem,O,J,cO,cD]
    repeat' first|simp -dsimp only[go_sem,O,J,hw,H,cO,cD]|apply Br.mk<;>intro h<;>try simp -dsimp only[h]|refine aB.c (by first|exact CP) ?_|refine aC ?_|fail
    all_goals first|omega|(exact⟨⟨i+1,by omega⟩,by simp[Vs.LeL,Vs.look,aA,aS,aJ,Vs.hset,aK,gA,gH,H,I],by simp only;omega⟩)
   .have U:gA (.t 27 0) i=.loc (.t 27 0) 0 i:=by simp[gA,I]
    have Y:gH (.t 27 0) (E cD (o.trays.take i)) i=[(.t 27 0,.arr 1 (E cD (o.trays.take i)) false)]:=by simp[gH,I]
    rw[U,Y];simp -dsimp only[go_sem,O,J,cO,cD]
    repeat' first|simp -dsimp only[go_sem,O,J,hw,H,ha,Z,cO,cD]|apply Br.mk<;>intro h<;>try simp -dsimp only[h]|refine aB.c (by first|exact CP) ?_|refine aC ?_|fail
    all_goals first|omega|(exact⟨⟨i+1,by omega⟩,by simp[Vs.LeL,Vs.look,aA,aS,aJ,Vs.hset,aK,gA,gH,H,I],by simp only;omega⟩)
  .obtain rfl:i=o.trays.length:=by omega
   have O:decide ((o.trays.length:Int)<(o.trays.length:Int))=false:=by simp
   have U:gA (.t 27 0) o.trays.length=.loc (.t 27 0) 0 o.trays.length:=by unfold gA;rw[AB (by omega)]
   have Y:gH (.t 27 0) (E cD (o.trays.take o.trays.length)) o.trays.length=[(.t 27 0,.arr 1 (E cD (o.trays.take o.trays.length)) false)]:=by unfold gH;rw[AB (by omega)]
   rw[U,Y];simp -dsimp only[go_sem,O,cO,cD];refine And.intro ?_ (λh=>absurd rfl h);refine aM.at dM (X:={i:Nat // i<=o.totals.length}) (λi=>[(5,.v (.int .i64 (i.1:Nat)))]) (λi=>(.t 3 0,.var [.loc (.t 27 0) 0 o.trays.length,gA (.t 50 0) i.1] false)::gH (.t 50 0) (E cTs (o.totals.take i.1)) i.1) (λi=>o.totals.length-i.1) ⟨0,by omega⟩ ?_ ?_
   .simp[Vs.LeL,Vs.look,aA,aS,aJ,Vs.hset,aK,gA,gH]
   .rintro⟨i,hi⟩
    try dsimp only at hi
    by_cases L:i<o.totals.length
    .have O:decide ((i:Int)<(o.totals.length:Int))=true:=A7 (by omega);have hw:=aG L (by omega);have J:=aHw L;have H:=aFb L;have ha:(E cTs (o.totals.take i)).length=i:=by rw[aH];simp;omega
     have Z:(o.totals.take i).length=i:=by simp;omega
     have hs:=(ho.2.2 _ (Aa L)).1;by_cases I:i=0
     .have U:gA (.t 50 0) i=.v (.slice none 0 0):=by simp[gA,I]
      have Y:gH (.t 50 0) (E cTs (o.totals.take i)) i=[]:=by simp[gH,I]
      have hb:E cTs (o.totals.take i)=[]:=by rw[I];rfl
      rw[hb,Ai] at H;rw[U,Y];simp -dsimp only[go_sem,O,J,cO,cD]
      repeat' first|simp -dsimp only[go_sem,O,J,hw,H,cO,cD]|apply Br.mk<;>intro h<;>try simp -dsimp only[h]|refine aC ?_|fail
      all_goals first|omega|(exact⟨⟨i+1,by omega⟩,by simp[Vs.LeL,Vs.look,aA,aS,aJ,Vs.hset,aK,gA,gH,H,I],by simp only;omega⟩)
     .have U:gA (.t 50 0) i=.loc (.t 50 0) 0 i:=by simp[gA,I]
      have Y:gH (.t 50 0) (E cTs (o.totals.take i)) i=[(.t 50 0,.arr 1 (E cTs (o.totals.take i)) false)]:=by simp[gH,I]
      rw[U,Y];simp -dsimp only[go_sem,O,J,cO,cD]
      repeat' first|simp -dsimp only[go_sem,O,J,hw,H,ha,Z,cO,cD]|apply Br.mk<;>intro h<;>try simp -dsimp only[h]|refine aC ?_|fail
      all_goals first|omega|(exact⟨⟨i+1,by omega⟩,by simp[Vs.LeL,Vs.look,aA,aS,aJ,Vs.hset,aK,gA,gH,H,I],by simp only;omega⟩)
    .obtain rfl:i=o.totals.length:=by omega
     have O:decide ((o.totals.length:Int)<(o.totals.length:Int))=false:=by simp
     have hd:(E cD (o.trays.take o.trays.length))=E cD o.trays:=by rw[Bv]
     have U:gA (.t 50 0) o.totals.length=.v (.slice none 0 0):=by simp[gA,hc]
     have Y:gH (.t 50 0) (E cTs (o.totals.take o.totals.length)) o.totals.length=[]:=by simp[gH,hc]
     rw[U,Y]
     repeat' first|simp -dsimp only[go_sem,O,hd,cO,cD]|apply Br.mk<;>intro h<;>try simp -dsimp only[h]|refine And.intro ?_ (λh=>absurd rfl h)|refine aC ?_|fail
     all_goals first|omega|exact⟨_,_,rfl,rfl⟩|exact⟨⟨_,_,rfl,rfl⟩,λh=>h rfl⟩
attribute [local go_sem] Int.reduceBEq Int.reduceBNe cC aH Af Ag Al Aq Ae Ai Ac Ak Ab Ah Am Au Ap Ao AX BH Vs.Name.t.injEq in
theorem aMt (o:Off) (ho:dY o) (hf:0<o.trays.length) (he:0<o.totals.length):Vs.Fn Tryz.prog F.qA [] [.ro (cO o)] (.agg [.loc (.b 0) 0 o.trays.length,.loc (.b 1) 0 o.totals.length]) [some (.arr 1 (E cD o.trays) false),some (.arr 1 (E cTs o.totals) false)]:=by
 have hn:=ho.1.1;have hm:=ho.2.1;refine fn1 Cd.s_l15Own_k [.t 27 0,.t 50 0] [.arr 1 (E cD o.trays) false,.arr 1 (E cTs o.totals) false] λX=>?_;unfold Cd.qA
 repeat' first|simp -dsimp only[go_sem,cO,cTs,cD]|apply Br.mk<;>intro h<;>try simp -dsimp only[h]|refine aC ?_|fail
 refine aM.at dM (X:={i:Nat // i<=o.trays.length}) (λi=>[(4,.v (.int .i64 (i.1:Nat)))]) (λi=>(.t 3 0,.var [gA (.t 27 0) i.1,.v (.slice none 0 0)] false)::gH (.t 27 0) (E cD (o.trays.take i.1)) i.1) (λi=>o.trays.length-i.1) ⟨0,by omega⟩ ?_ ?_
 .simp[Vs.LeL,Vs.look,aA,aS,aJ,Vs.hset,aK,gA,gH]
 .rintro⟨i,hi⟩
  try dsimp only at hi
  by_cases L:i<o.trays.length
  .have O:decide ((i:Int)<(o.trays.length:Int))=true:=A7 (by omega);have hw:=aG L (by omega);have J:=aLz L;have H:=aFc L;have ha:(E cD (o.trays.take i)).length=i:=by rw[aH];simp;omega
   have Z:(o.trays.take i).length=i:=by simp;omega
   have CP:=aEY o.trays[i] (ho.1.2 _ (Aa L));by_cases I:i=0
   .have U:gA (.t 27 0) i=.v (.slice none 0 0):=by simp[gA,I]
    have Y:gH (.t 27 0) (E cD (o.trays.take i)) i=[]:=by simp[gH,I]
    have hb:E cD (o.trays.take i)=[]:=by rw[I];rfl
    rw[hb,Ai] at H;rw[U,Y];simp -dsimp only[go_sem,O,J,cO,cTs,cD]
    repeat' first|simp -dsimp only[go_sem,O,J,hw,H,cO,cTs,cD]|apply Br.mk<;>intro h<;>try simp -dsimp only[h]|refine aB.c (by first|exact CP) ?_|refine aC ?_|fail
    all_goals first|omega|(exact⟨⟨i+1,by omega⟩,by simp[Vs.LeL,Vs.look,aA,aS,aJ,Vs.hset,aK,gA,gH,H,I],by simp only;omega⟩)
   .have U:gA (.t 27 0) i=.loc (.t 27 0) 0 i:=by simp[gA,I]
    have Y:gH (.t 27 0) (E cD (o.trays.take i)) i=[(.t 27 0,.arr 1 (E cD (o.trays.take i)) false)]:=by simp[gH,I]
    rw[U,Y];simp -dsimp only[go_sem,O,J,cO,cTs,cD]
    repeat' first|simp -dsimp only[go_sem,O,J,hw,H,ha,Z,cO,cTs,cD]|apply Br.mk<;>intro h<;>try simp -dsimp only[h]|refine aB.c (by first|exact CP) ?_|refine aC ?_|fail
    all_goals first|omega|(exact⟨⟨i+1,by omega⟩,by simp[Vs.LeL,Vs.look,aA,aS,aJ,Vs.hset,aK,gA,gH,H,I],by simp only;omega⟩)
  .obtain rfl:i=o.trays.length:=by omega
   have O:decide ((o.trays.length:Int)<(o.trays.length:Int))=false:=by simp
   have U:gA (.t 27 0) o.trays.length=.loc (.t 27 0) 0 o.trays.length:=by unfold gA;rw[AB (by omega)]
   have Y:gH (.t 27 0) (E cD (o.trays.take o.trays.length)) o.trays.length=[(.t 27 0,.arr 1 (E cD (o.trays.take o.trays.length)) false)]:=by unfold gH;rw[AB (by omega)]
   rw[U,Y];simp -dsimp only[go_sem,O,cO,cTs,cD];refine And.intro ?_ (λh=>absurd rfl h);refine aM.at dM (X:={i:Nat // i<=o.totals.length}) (λi=>[(5,.v (.int .i64 (i.1:Nat)))]) (λi=>(.t 3 0,.var [.loc (.t 27 0) 0 o.trays.length,gA (.t 50 0) i.1] false)::gH (.t 50 0) (E cTs (o.totals.take i.1)) i.1) (λi=>o.totals.length-i.1) ⟨0,by omega⟩ ?_ ?_
   .simp[Vs.LeL,Vs.look,aA,aS,aJ,Vs.hset,aK,gA,gH]
   .rintro⟨i,hi⟩
    try dsimp only at hi
    by_cases L:i<o.totals.length
    .have O:decide ((i:Int)<(o.totals.length:Int))=true:=A7 (by omega);have hw:=aG L (by omega);have J:=aHw L;have H:=aFb L;have ha:(E cTs (o.totals.take i)).length=i:=by rw[aH];simp;omega
     have Z:(o.totals.take i).length=i:=by simp;omega
     have hs:=(ho.2.2 _ (Aa L)).1;by_cases I:i=0
     .have U:gA (.t 50 0) i=.v (.slice none 0 0):=by simp[gA,I]
      have Y:gH (.t 50 0) (E cTs (o.totals.take i)) i=[]:=by simp[gH,I]
      have hb:E cTs (o.totals.take i)=[]:=by rw[I];rfl
      rw[hb,Ai] at H;rw[U,Y];simp -dsimp only[go_sem,O,J,cO,cTs,cD]
      repeat' first|simp -dsimp only[go_sem,O,J,hw,H,cO,cTs,cD]|apply Br.mk<;>intro h<;>try simp -dsimp only[h]|refine aC ?_|fail
      all_goals first|omega|(exact⟨⟨i+1,by omega⟩,by simp[Vs.LeL,Vs.look,aA,aS,aJ,Vs.hset,aK,gA,gH,H,I],by simp only;omega⟩)
     .have U:gA (.t 50 0) i=.loc (.t 50 0) 0 i:=by simp[gA,I]
      have Y:gH (.t 50 0) (E cTs (o.totals.take i)) i=[(.t 50 0,.arr 1 (E cTs (o.totals.take i)) false)]:=by simp[gH,I]
      rw[U,Y];simp -dsimp only[go_sem,O,J,cO,cTs,cD]
      repeat' first|simp -dsimp only[go_sem,O,J,hw,H,ha,Z,cO,cTs,cD]|apply Br.mk<;>intro h<;>try simp -dsimp only[h]|refine aC ?_|fail
      all_goals first|omega|(exact⟨⟨i+1,by omega⟩,by simp[Vs.LeL,Vs.look,aA,aS,aJ,Vs.hset,aK,gA,gH,H,I],by simp only;omega⟩)
    .obtain rfl:i=o.totals.length:=by omega
     have O:decide ((o.totals.length:Int)<(o.totals.length:Int))=false:=by simp
     have hc:(E cD (o.trays.take o.trays.length))=E cD o.trays:=by rw[Bv]
     have hd:(E cTs (o.totals.take o.totals.length))=E cTs o.totals:=by rw[Bv]
     have U:gA (.t 50 0) o.totals.length=.loc (.t 50 0) 0 o.totals.length:=by unfold gA;rw[AB (by omega)]
     have Y:gH (.t 50 0) (E cTs (o.totals.take o.totals.length)) o.totals.length=[(.t 50 0,.arr 1 (E cTs (o.totals.take o.totals.length)) false)]:=by unfold gH;rw[AB (by omega)]
     rw[U,Y]
     repeat' first|simp -dsimp only[go_sem,O,hc,hd,cO,cTs,cD]|apply Br.mk<;>intro h<;>try simp -dsimp only[h]|refine And.intro ?_ (λh=>absurd rfl h)|refine aC ?_|fail
     all_goals first|omega|exact⟨_,_,rfl,rfl⟩|exact⟨⟨_,_,rfl,rfl⟩,λh=>h rfl⟩
end
section
variable [Vs.Envs]
attribute [local irreducible] Vs.Fn bA mgC iM mtC iP oC mat tX dkC dkL jS jX lM wO bK aO bL bM l03 chB rk cd3 chI stp aP
open Go.Vs.Q in
def CdV.l15Do:aD:=s [mi 4 0] [0,1]<|.seq (s [m 9 1,nc 10 9,fa 11 0 10,lf 12 1 11,en 13 12 7] [0,1,13]<|.cond 13 (.seq (s [m 14 0,nc 15 14,fa 16 1 15,lf 17 1 16,ln 18 17,o 19 (.bin .geq 18 (k 20))] [0,1,19]<|.cond 19 (s [mi 4 5] [4]<|.ret) .skip)<|r [m 21 0,nc 22 21,fa 23 0 22,lf 24 1 23,m 25 1,nc 26 25,fa 27 1 26,lf
 28 1 27,ix 29 1 24 28,lf 30 1 29,m 31 1,nc 32 31,fa 33 4 32,lt 34 2 33,m 35 1,nc 36 35,fa 37 6 36,lt 38 2 37,c 39 F.uR [30,34,38],m 20 39,ex 40 20 0,ex 41 20 1,m 5 40,m 6 41] [0,5,6] [21,23,24,22,25,26,27,28,29,30,31,32,33,34,35,36,37,38,39,20,40,41,5]<|.seq (s [m 42 6,en 43 42 0]
 [0,5,6,43]<|.cond 43 (.region [m 44 0,m 45 0,nc 46 45,fa 47 1 46,lf 48 1 47,m 49 5,o 50 (.bslice 1 1 [.v (.slice none 0 0)] [(0,49)]),o 51 (.append 1 24 48 50),nc 52 44,fa 53 1 52,⟨none,.store 1 53 51,none⟩] [6] []) .skip)<|s [m 54 6,m 4 54] [4]<|.ret) .skip)<|s [m 56 0,m 57 1,o 58 (.call (.func
 F.oJ) [56,57] [0]),m 55 58,ex 59 55 0,ex 60 55 1,m 7 59,m 8 60] [0,1,7,8]<|.seq (s [m 61 8,en 62 61 0] [0,1,7,8,62]<|.cond 62 (.region [m 63 0,nc 64 63,fa 65 0 64,lf 66 1 65,m 67 1,nc 68 67,fa 69 3 68,lf 70 1 69,m 71 7,ix 72 1 66 70,⟨none,.store 1 72 71,none⟩] [8]
 [63,65,66,64,67,68,69,70,71]) .skip)<|s [m 73 8,m 4 73] [4]<|.ret
theorem CdV.l15Do_k:CK 51 Tryz.f51 CdV.l15Do 74 [.tmp 4]:=ck Tryz.func51
attribute [go_sem] CdV.l15Do
theorem aB.borG {P:Program}{f:FuncId}{hin:List Blk}{ys:List AV}{L:List Vs.Name}{d:Option Nat}{σ:St}{B:List Vs.Name}{K:St->Prop}{t:Tag K}{r:AV}{F:List (Option Blk)} (H:Vs.Fn P f hin ys r F) (I:kT (d.getD 0) B.length F.length σ=true)
  (J:K ⟨put d (rn (phi B (d.getD 0) F.length) r) σ.s,zU σ.h B (d.getD 0) F true L⟩):aB P f hin ys L d σ B K t:=
 ⟨r,F,true,H,λh=>(by cases h),I,J⟩
attribute [local go_sem] Int.reduceBEq Int.reduceBNe cC cO cFd aH Af Ag Al Aq Ae Ai Ac Ak Ab Ah Am Au Ap Ao AX BH Vs.Name.t.injEq Aw A9 Vs.Name.b.injEq in
theorem aJl (x:Stp) (hz:x.text.size<=1048576) (o:Off) (w:Nat) (I:okO w o) (hv:lM x (wO o.trays)=true) (he:o.totals.length=0) (h0:stC x o≠0):Vs.Fn Tryz.prog F.wH [.var [.loc (.b 1) 0 o.trays.length,.v (.slice none 0 0)] false,.arr 1 (E cD o.trays) false] [.ptr (.b 0) 0 0,.ro (cS x)] (.v (.int .i64 (stC x o))) ([.var [.loc (.b 1) 0 o.trays.length,.v (.slice none 0 0)] false,.arr 1 (E cD o.trays) false].map some):=by
 have Z:=eG I;have hd:=I.2.1;have hc:=I.2.2.2.1;have H:=wD I hv;have ma:=gJ H.a;have mb:=gJ H.b;have ga:=iK H.a;have gb:=iK H.b;have gt:=iK H.to;have a0:=H.a.1;have a1:=H.a.2;have t0:=H.to.1;have t1:=H.to.2;have U:(E cD o.trays).length=o.trays.length:=aH _;have Y:(E cTs o.totals).length=o.totals.length:=aH _;have L:(E cD o.trays).take o.trays.length=E cD o.trays:=Aj (by omega);have O:(E cTs o.totals).take o.totals.length=E cTs o.totals:=Aj (by omega);by_cases J:x.kind=7
 .have e7:(x.kind==7)=true:=BN.2 J;unfold stC at h0⊢;rw[AP J] at h0⊢;rw[AB (by omega:¬20<=o.totals.length)] at h0⊢;have ha:decide (((0:Nat):Int)≥20)=false:=by decide
  have da:=I.2.2.1 _ ma;have TO:=aCi (tr o.trays x.a) x.f0 x.f1 x.s0 x.s1 (oU I.1.2 da) da.1 (wT (nH I ma) H.f) (aBo (nH I ma) (H.n J));cases hb:jS x.f0 x.f1 x.s0 x.s1 (tr o.trays x.a)
  .rw[aEx hb,hb] at TO;simp only[AR,Bd] at TO;rw[AB (by decide)];refine fn1 CdV.l15Do_k [.b 0,.b 1] [.var [.loc (.b 1) 0 o.trays.length,.v (.slice none 0 0)] false,.arr 1 (E cD o.trays) false] λX=>?_;unfold CdV.l15Do
   repeat' first|simp -dsimp only[go_sem,e7,ha,ga,U,Y,L,O,cS]|apply Br.mk<;>intro h<;>try simp -dsimp only[h]|refine aB.c (by first|exact TO) ?_|refine aC ?_|fail
   all_goals first|omega|exact⟨_,_,rfl,rfl⟩
  .rw[AP hb] at h0;exact absurd rfl h0
 .have e7:(x.kind==7)=false:=AC.2 J;have MK:=(aAT x hz o.trays Z.1.2 Z.1.1 H.a H.b o.totals).1;rw[show stC x o=dkC x (tr o.trays x.a) (tr o.trays x.b) by unfold stC;rw[AB J]] at h0⊢;rw[aLq h0] at MK;have e0:(dkC x (tr o.trays x.a) (tr o.trays x.b)==0)=false:=AC.2 h0;generalize dkC x (tr o.trays x.a) (tr o.trays x.b)=c at *
  refine fn1 CdV.l15Do_k [.b 0,.b 1] [.var [.loc (.b 1) 0 o.trays.length,.v (.slice none 0 0)] false,.arr 1 (E cD o.trays) false] λX=>?_;unfold CdV.l15Do
  repeat' first|simp -dsimp only[go_sem,e7,e0,U,Y,L,O,cS]|apply Br.mk<;>intro h<;>try simp -dsimp only[h]|refine aB.borG (B:=[.b 0,.b 1]) (by first|exact MK) rfl ?_|refine aC ?_|fail
  all_goals first|omega|exact⟨_,_,rfl,rfl⟩
theorem aJm (x:Stp) (hz:x.text.size<=1048576) (o:Off) (w:Nat) (J:okO w o) (hv:lM x (wO o.trays)=true) (he:o.totals.length=0) (h7:x.kind≠7) (h0:stC x o=0):Vs.Fn Tryz.prog F.wH [.var [.loc (.b 1) 0 o.trays.length,.v (.slice none 0 0)] false,.arr 1 (E cD o.trays) false] [.ptr (.b 0) 0 0,.ro (cS x)] (.v (.int .i64 0)) ([.var [.loc (.b 1) 0 o.trays.length,.v (.slice none 0 0)] false,.arr 1 (E cD (o.trays.set x.to.toNat (dkL x (tr o.trays x.a) (tr o.trays x.b)))) false].map some):=by
 have I:=eG J;have hb:=J.2.1;have ha:=J.2.2.2.1;have H:=wD J hv;have ma:=gJ H.a;have mb:=gJ H.b;have ga:=iK H.a;have gb:=iK H.b;have gt:=iK H.to;have a0:=H.a.1;have a1:=H.a.2;have t0:=H.to.1;have t1:=H.to.2;have U:(E cD o.trays).length=o.trays.length:=aH _;have Y:(E cTs o.totals).length=o.totals.length:=aH _;have L:(E cD o.trays).take o.trays.length=E cD o.trays:=Aj (by omega);have O:(E cTs o.totals).take o.totals.length=E cTs o.totals:=Aj (by omega);have e7:(x.kind==7)=false:=AC.2 h7;have MK:=(aAT x hz o.trays I.1.2 I.1.1 H.a H.b o.totals).1;rw[show stC x o=dkC x (tr o.trays x.a) (tr o.trays x.b) by unfold stC;rw[AB h7]] at h0;rw[aLp h0,h0] at MK;generalize dkL x (tr o.trays x.a) (tr o.trays x.b)=D at *
 have Z:=aLJ o.trays x.to.toNat D;refine fn1 CdV.l15Do_k [.b 0,.b 1] [.var [.loc (.b 1) 0 o.trays.length,.v (.slice none 0 0)] false,.arr 1 (E cD (o.trays.set x.to.toNat D)) false] λX=>?_;unfold CdV.l15Do
 repeat' first|simp -dsimp only[go_sem,e7,gt,U,Y,Z,L,O,Int.reduceBEq,Int.reduceBNe,cC,cO,cS,cFd,aH,Af,Ag,Al,Aq,Ae,Ai,Ac,Ak,Ab,Ah,Am,Au,Ap,Ao,AX,BH,Vs.Name.t.injEq,Aw,A9,Vs.Name.b.injEq]|apply Br.mk<;>intro h<;>try simp -dsimp only[h]|refine aB.borG (B:=[.b 0,.b 1]) (by first|exact MK) rfl ?_|refine aC ?_|fail
 all_goals first|omega|exact⟨_,_,rfl,rfl⟩
theorem aG5 (x:Stp) (hz:x.text.size<=1048576) (o:Off) (w:Nat) (I:okO w o) (hv:lM x (wO o.trays)=true) (he:o.totals.length=0) (Z:x.kind=7) (h0:stC x o=0):Vs.Fn Tryz.prog F.wH [.var [.loc (.b 1) 0 o.trays.length,.v (.slice none 0 0)] false,.arr 1 (E cD o.trays) false] [.ptr (.b 0) 0 0,.ro (cS x)] (.v (.int .i64 0)) [some (.var [.loc (.b 1) 0 o.trays.length,.loc (.b 2) 0 (o.totals.length+1)] false),some (.arr 1 (E cD o.trays) false),some (.arr 1 (E cTs (o.totals++[jX x.f0 x.f1 x.s0 x.s1 (tr o.trays x.a)])) false)]:=by
 have hk:=eG I;have hh:=I.2.1;have hg:=I.2.2.2.1;have H:=wD I hv;have ma:=gJ H.a;have mb:=gJ H.b;have ga:=iK H.a;have gb:=iK H.b;have gt:=iK H.to;have a0:=H.a.1;have a1:=H.a.2;have t0:=H.to.1;have t1:=H.to.2;have hd:(E cD o.trays).length=o.trays.length:=aH _;have hf:(E cTs o.totals).length=o.totals.length:=aH _;have ha:(E cD o.trays).take o.trays.length=E cD o.trays:=Aj (by omega);have hc:(E cTs o.totals).take o.totals.length=E cTs o.totals:=Aj (by omega);have e7:(x.kind==7)=true:=BN.2 Z;unfold stC at h0;rw[AP Z] at h0;have Y:¬20<=o.totals.length:=by intro h;rw[AP h] at h0;cases h0
 rw[AB Y] at h0;have J:decide ((o.totals.length:Int)≥20)=false:=AO (by omega)
 have O:jS x.f0 x.f1 x.s0 x.s1 (tr o.trays x.a)=true:=by
  cases O:jS x.f0 x.f1 x.s0 x.s1 (tr o.trays x.a)
  .rw[O] at h0;cases h0
  .rfl
 have da:=I.2.2.1 _ ma;have U:=aCi (tr o.trays x.a) x.f0 x.f1 x.s0 x.s1 (oU I.1.2 da) da.1 (wT (nH I ma) H.f) (aBo (nH I ma) (H.n Z));rw[aHN O,O] at U;simp only[Bj] at U;have L:=aNl o.totals (jX x.f0 x.f1 x.s0 x.s1 (tr o.trays x.a));have J:decide (((0:Nat):Int)≥20)=false:=by decide
 have L:[[.sl 2 (E cT (jX x.f0 x.f1 x.s0 x.s1 (tr o.trays x.a)))]]=E cTs (o.totals++[jX x.f0 x.f1 x.s0 x.s1 (tr o.trays x.a)]):=by rw[Bt he];rfl
 refine CdV.l15Do_k.o.fnD Tryz.mixed (hin:=[.var [.loc (.b 1) 0 o.trays.length,.v (.slice none 0 0)] false,.arr 1 (E cD o.trays) false]) (args:=[.ptr (.b 0) 0 0,.ro (cS x)]) _ _ [.b 0,.b 1,.t 51 0] [some (.var [.loc (.b 1) 0 o.trays.length,.loc (.b 2) 0 (o.totals.length+1)] false),some (.arr 1 (E cD o.trays) false),some (.arr 1 (E cTs (o.totals++[jX x.f0 x.f1 x.s0 x.s1 (tr o.trays x.a)])) false)] CdV.l15Do_k.n CdV.l15Do_k.r rfl rfl (by intro j hj;rcases j with _|_|_|j<;>first|rfl|(simp at hj;done)|(simp at hj;omega)) λX=>?_;unfold CdV.l15Do
 repeat' first|simp -dsimp only[go_sem,e7,J,ga,hd,hf,L,ha,hc,he,BU,Int.reduceBEq,Int.reduceBNe,cC,cO,cS,cFd,aH,Af,Ag,Al,Aq,Ae,Ai,Ac,Ak,Ab,Ah,Am,Au,Ap,Ao,AX,BH,Vs.Name.t.injEq,Aw,A9,Vs.Name.b.injEq]|apply Br.mk<;>intro h<;>try simp -dsimp only[h]|refine aB.c (by first|exact U) ?_|refine aC ?_|fail
 all_goals first|omega|exact⟨_,_,rfl,rfl⟩
attribute [local go_sem] Int.reduceBEq Int.reduceBNe cC cO cFd aH Af Ag Al Aq Ae Ai Ac Ak Ab Ah Am Au Ap Ao AX BH Vs.Name.t.injEq Aw A9 Vs.Name.b.injEq in
theorem aJj (x:Stp) (hz:x.text.size<=1048576) (o:Off) (w:Nat) (I:okO w o) (hv:lM x (wO o.trays)=true) (h0:stC x o≠0):Vs.Fn Tryz.prog F.wH [.var [.loc (.b 1) 0 o.trays.length,.loc (.b 2) 0 o.totals.length] false,.arr 1 (E cD o.trays) false,.arr 1 (E cTs o.totals) false] [.ptr (.b 0) 0 0,.ro (cS x)] (.v (.int .i64 (stC x o))) ([.var [.loc (.b 1) 0 o.trays.length,.loc (.b 2) 0 o.totals.length] false,.arr 1 (E cD o.trays) false,.arr 1 (E cTs o.totals) false].map some):=by
 have ha:=eG I;have hd:=I.2.1;have hc:=I.2.2.2.1;have H:=wD I hv;have ma:=gJ H.a;have mb:=gJ H.b;have ga:=iK H.a;have gb:=iK H.b;have gt:=iK H.to;have a0:=H.a.1;have a1:=H.a.2;have t0:=H.to.1;have t1:=H.to.2;have U:(E cD o.trays).length=o.trays.length:=aH _;have Y:(E cTs o.totals).length=o.totals.length:=aH _;have L:(E cD o.trays).take o.trays.length=E cD o.trays:=Aj (by omega);have O:(E cTs o.totals).take o.totals.length=E cTs o.totals:=Aj (by omega);by_cases h7:x.kind=7
 .have e7:(x.kind==7)=true:=BN.2 h7;unfold stC at h0⊢;rw[AP h7] at h0⊢;by_cases Z:20<=o.totals.length
  .have J:decide ((o.totals.length:Int)≥20)=true:=A7 (by omega);rw[AP Z];refine fn1 CdV.l15Do_k [.b 0,.b 1,.b 2] [.var [.loc (.b 1) 0 o.trays.length,.loc (.b 2) 0 o.totals.length] false,.arr 1 (E cD o.trays) false,.arr 1 (E cTs o.totals) false] λX=>?_;unfold CdV.l15Do
   repeat' first|simp -dsimp only[go_sem,e7,J,U,Y,L,O,cS]|apply Br.mk<;>intro h<;>try simp -dsimp only[h]|refine aC ?_|fail
   all_goals first|omega|exact⟨_,_,rfl,rfl⟩
  rw[AB Z] at h0⊢;have J:decide ((o.totals.length:Int)≥20)=false:=AO (by omega);have da:=I.2.2.1 _ ma;have TO:=aCi (tr o.trays x.a) x.f0 x.f1 x.s0 x.s1 (oU I.1.2 da) da.1 (wT (nH I ma) H.f) (aBo (nH I ma) (H.n h7));cases hb:jS x.f0 x.f1 x.s0 x.s1 (tr o.trays x.a)
  .rw[aEx hb,hb] at TO;simp only[AR,Bd] at TO;rw[AB (by decide)];refine fn1 CdV.l15Do_k [.b 0,.b 1,.b 2] [.var [.loc (.b 1) 0 o.trays.length,.loc (.b 2) 0 o.totals.length] false,.arr 1 (E cD o.trays) false,.arr 1 (E cTs o.totals) false] λX=>?_;unfold CdV.l15Do
   repeat' first|simp -dsimp only[go_sem,e7,J,ga,U,Y,L,O,cS]|apply Br.mk<;>intro h<;>try simp -dsimp only[h]|refine aB.c (by first|exact TO) ?_|refine aC ?_|fail
   all_goals first|omega|exact⟨_,_,rfl,rfl⟩
  .rw[AP hb] at h0;exact absurd rfl h0
 .have e7:(x.kind==7)=false:=AC.2 h7;have MK:=(aAT x hz o.trays ha.1.2 ha.1.1 H.a H.b o.totals).2;rw[show stC x o=dkC x (tr o.trays x.a) (tr o.trays x.b) by unfold stC;rw[AB h7]] at h0⊢;rw[aLq h0] at MK;have e0:(dkC x (tr o.trays x.a) (tr o.trays x.b)==0)=false:=AC.2 h0;generalize dkC x (tr o.trays x.a) (tr o.trays x.b)=c at *
  refine fn1 CdV.l15Do_k [.b 0,.b 1,.b 2] [.var [.loc (.b 1) 0 o.trays.length,.loc (.b 2) 0 o.totals.length] false,.arr 1 (E cD o.trays) false,.arr 1 (E cTs o.totals) false] λX=>?_;unfold CdV.l15Do
  repeat' first|simp -dsimp only[go_sem,e7,e0,U,Y,L,O,cS]|apply Br.mk<;>intro h<;>try simp -dsimp only[h]|refine aB.borG (B:=[.b 0,.b 1,.b 2]) (by first|exact MK) rfl ?_|refine aC ?_|fail
  all_goals first|omega|exact⟨_,_,rfl,rfl⟩
theorem aJk (x:Stp) (hz:x.text.size<=1048576) (o:Off) (w:Nat) (J:okO w o) (hv:lM x (wO o.trays)=true) (h7:x.kind≠7) (h0:stC x o=0):Vs.Fn Tryz.prog F.wH [.var [.loc (.b 1) 0 o.trays.length,.loc (.b 2) 0 o.totals.length] false,.arr 1 (E cD o.trays) false,.arr 1 (E cTs o.totals) false] [.ptr (.b 0) 0 0,.ro (cS x)] (.v (.int .i64 0)) ([.var [.loc (.b 1) 0 o.trays.length,.loc (.b 2) 0 o.totals.length] false,.arr 1 (E cD (o.trays.set x.to.toNat (dkL x (tr o.trays x.a) (tr o.trays x.b)))) false,.arr 1 (E cTs o.totals) false].map some):=by
 have I:=eG J;have hb:=J.2.1;have ha:=J.2.2.2.1;have H:=wD J hv;have ma:=gJ H.a;have mb:=gJ H.b;have ga:=iK H.a;have gb:=iK H.b;have gt:=iK H.to;have a0:=H.a.1;have a1:=H.a.2;have t0:=H.to.1;have t1:=H.to.2;have U:(E cD o.trays).length=o.trays.length:=aH _;have Y:(E cTs o.totals).length=o.totals.length:=aH _;have L:(E cD o.trays).take o.trays.length=E cD o.trays:=Aj (by omega);have O:(E cTs o.totals).take o.totals.length=E cTs o.totals:=Aj (by omega);have e7:(x.kind==7)=false:=AC.2 h7;have MK:=(aAT x hz o.trays I.1.2 I.1.1 H.a H.b o.totals).2;rw[show stC x o=dkC x (tr o.trays x.a) (tr o.trays x.b) by unfold stC;rw[AB h7]] at h0;rw[aLp h0,h0] at MK;generalize dkL x (tr o.trays x.a) (tr o.trays x.b)=D at *
 have Z:=aLJ o.trays x.to.toNat D;refine fn1 CdV.l15Do_k [.b 0,.b 1,.b 2] [.var [.loc (.b 1) 0 o.trays.length,.loc (.b 2) 0 o.totals.length] false,.arr 1 (E cD (o.trays.set x.to.toNat D)) false,.arr 1 (E cTs o.totals) false] λX=>?_;unfold CdV.l15Do
 repeat' first|simp -dsimp only[go_sem,e7,gt,U,Y,Z,L,O,Int.reduceBEq,Int.reduceBNe,cC,cO,cS,cFd,aH,Af,Ag,Al,Aq,Ae,Ai,Ac,Ak,Ab,Ah,Am,Au,Ap,Ao,AX,BH,Vs.Name.t.injEq,Aw,A9,Vs.Name.b.injEq]|apply Br.mk<;>intro h<;>try simp -dsimp only[h]|refine aB.borG (B:=[.b 0,.b 1,.b 2]) (by first|exact MK) rfl ?_|refine aC ?_|fail
 all_goals first|omega|exact⟨_,_,rfl,rfl⟩
theorem aG4 (x:Stp) (hz:x.text.size<=1048576) (o:Off) (w:Nat) (I:okO w o) (hv:lM x (wO o.trays)=true) (Y:x.kind=7) (h0:stC x o=0):Vs.Fn Tryz.prog F.wH [.var [.loc (.b 1) 0 o.trays.length,.loc (.b 2) 0 o.totals.length] false,.arr 1 (E cD o.trays) false,.arr 1 (E cTs o.totals) false] [.ptr (.b 0) 0 0,.ro (cS x)] (.v (.int .i64 0)) [some (.var [.loc (.b 1) 0 o.trays.length,.loc (.b 3) 0 (o.totals.length+1)] false),some (.arr 1 (E cD o.trays) false),none,some (.arr 1 (E cTs (o.totals++[jX x.f0 x.f1 x.s0 x.s1 (tr o.trays x.a)])) false)]:=by
 have hh:=eG I;have hg:=I.2.1;have hf:=I.2.2.2.1;have H:=wD I hv;have ma:=gJ H.a;have mb:=gJ H.b;have ga:=iK H.a;have gb:=iK H.b;have gt:=iK H.to;have a0:=H.a.1;have a1:=H.a.2;have t0:=H.to.1;have t1:=H.to.2;have hc:(E cD o.trays).length=o.trays.length:=aH _;have hd:(E cTs o.totals).length=o.totals.length:=aH _;have Z:(E cD o.trays).take o.trays.length=E cD o.trays:=Aj (by omega);have ha:(E cTs o.totals).take o.totals.length=E cTs o.totals:=Aj (by omega);have e7:(x.kind==7)=true:=BN.2 Y;unfold stC at h0;rw[AP Y] at h0;have U:¬20<=o.totals.length:=by intro h;rw[AP h] at h0;cases h0
 rw[AB U] at h0;have O:decide ((o.totals.length:Int)≥20)=false:=AO (by omega)
 have J:jS x.f0 x.f1 x.s0 x.s1 (tr o.trays x.a)=true:=by
  cases J:jS x.f0 x.f1 x.s0 x.s1 (tr o.trays x.a)
  .rw[J] at h0;cases h0
  .rfl
 have da:=I.2.2.1 _ ma;have L:=aCi (tr o.trays x.a) x.f0 x.f1 x.s0 x.s1 (oU I.1.2 da) da.1 (wT (nH I ma) H.f) (aBo (nH I ma) (H.n Y));rw[aHN J,J] at L;simp only[Bj] at L;have he:=aNl o.totals (jX x.f0 x.f1 x.s0 x.s1 (tr o.trays x.a));refine CdV.l15Do_k.o.fnD Tryz.mixed (hin:=[.var [.loc (.b 1) 0 o.trays.length,.loc (.b 2) 0 o.totals.length] false,.arr 1 (E cD o.trays) false,.arr 1 (E cTs o.totals) false]) (args:=[.ptr (.b 0) 0 0,.ro (cS x)]) _ _ [.b 0,.b 1,.b 2,.t 51 0] [some (.var [.loc (.b 1) 0 o.trays.length,.loc (.b 3) 0 (o.totals.length+1)] false),some (.arr 1 (E cD o.trays) false),none,some (.arr 1 (E cTs (o.totals++[jX x.f0 x.f1 x.s0 x.s1 (tr o.trays x.a)])) false)] CdV.l15Do_k.n CdV.l15Do_k.r rfl rfl (by intro j hj;rcases j with _|_|_|j<;>first|rfl|(simp at hj;done)|(simp at hj;omega)) λX=>?_;unfold CdV.l15Do
 repeat' first|simp -dsimp only[go_sem,e7,O,ga,hc,hd,he,Z,ha,Int.reduceBEq,Int.reduceBNe,cC,cO,cS,cFd,aH,Af,Ag,Al,Aq,Ae,Ai,Ac,Ak,Ab,Ah,Am,Au,Ap,Ao,AX,BH,Vs.Name.t.injEq,Aw,A9,Vs.Name.b.injEq]|apply Br.mk<;>intro h<;>try simp -dsimp only[h]|refine aB.c (by first|exact L) ?_|refine aC ?_|fail
 all_goals first|omega|exact⟨_,_,rfl,rfl⟩
end
section
variable [Vs.Envs]
attribute [local irreducible] Vs.Fn bK aO bL bM l03 chB rk cd3 chI stp aP
end
section
variable [Vs.Envs]
attribute [local irreducible] Vs.Fn bK aO bL bM l03 chB rk cd3 chI stp aP
theorem aNv (l:List Stp):Fz F.kI [.sl 9 (E cS l)] (.v (.int .i64 l.length)):=by
 refine fn0 Cd.i_size_i_Step__k λX=>?_
 repeat' first|simp -dsimp only[go_sem]|apply Br.mk<;>intro h<;>try simp -dsimp only[h]|refine aC ?_|fail
 all_goals(simp_all)
end
end Go.Proofs.YtkgeiaideklmoaaGreat
