/- A deck in new memory, one card of which is spoilt. -/
import Derived.Test.YtklmdppgonhflaaGreatDoorXwBb
import Derived.Test.YtklmdppgonhflaaGreatDoorVuY
import Derived.Test.YtklmdppgonhflaaGreatDoorXwPd
set_option linter.all false
set_option maxHeartbeats 8000000
namespace Go.Proofs.YtklmdppgonhflaaGreatDoor
open Go.Vs
section
variable [Vs.Envs]
attribute [local irreducible] Vs.Fn nxV nxS pkV pkS pt crd gG dtF jD hoF hoR
open Go.Vs.Q in
def CdV.nO:aD:=s [mn 6] [0,1,2]<|.seq (.naming 7 (.region [o 9 (.bslice 1 0 [.v (.slice none 0 0)] []),m 7 9] [0,1,2,7] []))<|.seq (s [m 10 0,m 11 2,ad 12 11 1,o 13 (.call (.func F.aF) [10,12] [0]),m 8 13] [0,1,7,8]<|.block 0 (.loop (.seq (s [m 14 8,o 15 (.bin .gtr 14 (k 0))] [0,1,7,8,15]<|.cond 15
 .skip (.exit 0))<|.seq (.block 1 (.naming 7 (.region [m 18 7,m 19 0,m 20 1,o 21 (.call (.func F.gI) [19,20] [0]),o 22 (.bslice 1 1 [.v (.slice none 0 0)] [(0,21)]),o 23 (.append 1 24 18 22),m 7 23] [0,1,7,8] [])))<|.region [m 16 8,o 17 (.bin .sub 16 (k 1)),m 8 17] [0,1,7,8] [])))<|s [m 24
 7,m 6 24] [6]<|.ret
theorem CdV.l02DrawDeck_k:CK 90 Tryz.f90 CdV.nO 25 [.tmp 6]:=ck Tryz.func90
attribute [go_sem] CdV.nO
theorem aDc (l:List Int) (x:Sr) (n:Vs.Name):(sB l x).has n=false:=by simp[sB,Blk.has,mD,AV.has]
theorem aHI (l:List Int):∀r,r∈E cI l->rD r=true:=λr F=>by
 obtain⟨y,_,rfl⟩:=Bq.1 F;rfl
theorem aDH (l:List Int) (x:Sr) (H:byt l) (n:Nat) (G:0<n) (I:n<=20) (J:x.p<=3000):Vs.Fn Tryz.prog F.gI [sB l x] [.ptr (.b 0) 0 0,.v (.int .i64 n)] (.agg (cC (hoF l n x []).1)) [some (sB l (hoF l n x []).2)]:=by
 have h:=aIE l x H n G I J;have e:n=(E cI (hoF l n x []).1).length:=by rw[aH,(xK l n x []).1];simp
 exact Vs.Fn.shutB (k:=1) (rows:=E cI (hoF l n x []).1) (by rw[←e];exact h) (aHI _) (aDc l _)
def ddF (l:List Int) (n:Nat):Nat->Sr->List (List Int)->List (List Int)×Sr
 |0,x,o=>(o,x)
 |k+1,x,o=>ddF l n k (hoF l n x []).2 (o++[(hoF l n x []).1])
theorem aDR (l:List Int) (n:Nat):∀(k:Nat) (x:Sr) (o:List (List Int)),(∀c,c∈o->c.length=n)->(ddF l n k x o).1.length=o.length+k∧(ddF l n k x o).2.p<=x.p+8*n*k∧∀c,c∈(ddF l n k x o).1->c.length=n
 |0,x,o,h=>⟨rfl,by simp[ddF],h⟩
 | k+1,x,o,h=>by
  have G:=(xK l n x []);simp only[Ai,Ca] at G
  obtain ⟨H,J,I⟩:=aDR l n k (hoF l n x []).2 (o++[(hoF l n x []).1]) (λc F=>by
    rcases Bg.1 F with F|F
    . exact h c F
    . rw[Av.1 F];exact G.1)
  rw[ddF];refine⟨by rw[H,AX];simp only[Cf];omega,?_,I⟩;rw[Nat.mul_succ];omega
attribute [local go_sem] Int.reduceBEq Int.reduceBNe aH Af Ag Ao Aq Ae Aj Ad Al Ac Ai Ap Av Am Ak AR BQ Vs.Name.t.injEq Ar AY aT aU bF Be BF BG in
theorem nO (l:List Int) (x:Sr) (Z:byt l) (n:Nat) (h0:0<n) (hn:n<=20) (m:Nat) (hm:m<=7) (hp:x.p<=1600):Vs.Fn Tryz.prog F.mF [sB l x] [.ptr (.b 0) 0 0,.v (.int .i64 n),.v (.int .i64 m)] (.loc (.b 1) 0 (ddF l n (pkV l x (m+1:Nat)).toNat (pkS l x (m+1:Nat)) []).1.length) [some (sB l (ddF l n (pkV l x (m+1:Nat)).toNat (pkS l x (m+1:Nat)) []).2),some (.arr 1 (E cC (ddF l n (pkV l x (m+1:Nat)).toNat (pkS l x (m+1:Nat)) []).1) false)]:=by
 have v:=aZ Z x (n:=(m+1:Nat)) (by omega);have ha:IntKind.i64.wrap ((m:Int)+1)=((m+1:Nat):Int):=by rw[aI (by omega) (by omega)];omega
 have P0:=pick l x Z (m+1:Nat) (by omega);have p0:=aO l x (m+1:Nat);obtain⟨I,M⟩:∃k:Nat,pkV l x (m+1:Nat)=k:=⟨(pkV l x (m+1:Nat)).toNat,by omega⟩;rw[M] at P0 v;rw[M,BR];generalize pkS l x (m+1:Nat)=x0 at *
 have he:8*n*I<=160*8:=by
  have:8*n*I<=(8*20)*8:=Nat.mul_le_mul (by omega) (by omega);omega
 obtain⟨g1,g2,g3⟩:=aDR l n I x0 [] (λc J=>by cases J);simp only[Ai,Ca] at g1;have hT:ddF l n I x0 []=ddF l n I x0 []:=rfl;generalize hR:ddF l n I x0 []=R at *
 have hd:ddF l n I x0 []=R:=hR;refine fn1 CdV.l02DrawDeck_k [.b 0,.t 7 0] [sB l R.2,.arr 1 (E cC R.1) false] λX=>?_;unfold CdV.nO
 repeat' first|simp -dsimp only[go_sem,cC,sB,ha]|apply Br.mk<;>intro h<;>try simp -dsimp only[h]|refine aA.bor (by first|exact P0) rfl ?_|refine aC ?_|refine aC9 ?_|fail
 refine aP.at dM (X:={G:Nat×Sr×List (List Int) // (G.2.1.p+8*n*G.1<=2900)∧(G.1+G.2.2.length=I)∧ddF l n G.1 G.2.1 G.2.2=R}) (λG=>[(7,.loc (.t 7 0) 0 G.1.2.2.length),(8,.v (.int .i64 (G.1.1:Nat)))]) (λG=>[(.b 0,sB l G.1.2.1),(.t 7 0,.arr 1 (E cC G.1.2.2) false)]) (λG=>G.1.1) ⟨(I,x0,[]),by dsimp only;omega,by dsimp only;simp only[Ai];omega,hR⟩ ?_ ?_
 .simp[Vs.LeL,Vs.look,aB,aQ,aK,Vs.hset,aL,Vs.E,sB]
 .rintro⟨⟨k,y,o⟩,O,Y,U⟩;dsimp only at O Y U;simp -dsimp only[go_sem,cC,sB];refine Br.mk (λJ=>?_) λJ=>?_
  .obtain⟨k,rfl⟩:∃j,k=j+1:=⟨k-1,by simp at J;omega⟩;have w:=aJj (k:=k) (by omega);rw[Nat.mul_succ] at O;have hf:=aDH l y Z n h0 hn (by omega);have hq:=(xK l n y []).2;rw[ddF] at U;generalize hoF l n y []=H at *
   have V:E cC o++[[.sl 1 (E cI H.1)]]=E cC (o++[H.1]):=by rw[aV];rfl
   repeat' first|simp -dsimp only[go_sem,w,V,cC,sB]|apply Br.mk<;>intro h<;>try simp -dsimp only[h]|refine aA.bor (by first|exact hf) rfl ?_|refine aC ?_|refine aC9 ?_|fail
   all_goals first|omega|(refine⟨⟨(k,H.2,o++[H.1]),by dsimp only;omega,by dsimp only;rw[AX];simp only[Ac,Ai];omega,U⟩,?_,by simp only;omega⟩;simp[Vs.LeL,Vs.look,aB,aQ,aK,Vs.hset,aL,Vs.E,sB,cC];done)
  .obtain rfl:k=0:=by simp at J;omega
   rw[ddF] at U;subst U;dsimp only at *
   have hb:o.length=I:=by omega
   simp -dsimp only[go_sem,cC,sB]
   first|exact⟨⟨_,_,rfl,rfl⟩,λh=>h rfl⟩|exact⟨_,_,rfl,rfl⟩
end
section
variable [Vs.Envs]
attribute [local irreducible] Vs.Fn nxV nxS pkV pkS pt crd dtF jD hoF hoR
open Go.Vs.Q in
def CdV.l02DrawDeckN:aD:=s [mn 6] [0,1,2]<|.seq ((.region [o 9 (.bslice 1 0 [.v (.slice none 0 0)] []),m 7 9] [0,1,2,7] []))<|.seq (s [m 10 0,m 11 2,ad 12 11 1,o 13 (.call (.func F.aF) [10,12] [0]),m 8 13] [0,1,7,8]<|.block 0 (.loop (.seq (s [m 14 8,o 15 (.bin .gtr 14 (k 0))] [0,1,7,8,15]<|.cond 15 .skip
 (.exit 0))<|.seq (.block 1 ((.region [m 18 7,m 19 0,m 20 1,o 21 (.call (.func F.gI) [19,20] [0]),o 22 (.bslice 1 1 [.v (.slice none 0 0)] [(0,21)]),o 23 (.append 1 24 18 22),m 7 23] [0,1,7,8] [])))<|.region [m 16 8,o 17 (.bin .sub 16 (k 1)),m 8 17] [0,1,7,8] [])))<|s [m 24 7,m 6 24]
 [6]<|.ret
theorem CdV.l02DrawDeckN_k:CK 90 Tryz.f90 CdV.l02DrawDeckN 25 [.tmp 6]:=ck Tryz.func90
attribute [go_sem] CdV.l02DrawDeckN
structure aNX (w w':World) (S':Nat->Prop) (d:List (List Int)) (v:Value) (ss:List Value) (xs:Nat->Option Nat) (cs:Nat->Nat) (x0:Option Nat) (c0:Nat):Prop where
 root:Own S' w' x0 c0 1 (ss.map λs=>[AV.v s]) v
 rows:aCD S' w' 1 (d.map (E cI)) ss xs cs
 new0:∀b,x0=some b->w.heap.size<=b∧b<w'.heap.size∧∀j,j<ss.length->xs j≠some b
 new:∀j b,j<ss.length->xs j=some b->w.heap.size<=b∧b<w'.heap.size
attribute [local go_sem] Int.reduceBEq Int.reduceBNe cC aH Af Ag Ao Aq Ae Aj Ad Al Ac Ai Ap Av Am Ak AR BQ Vs.Name.t.injEq Ar AY aT aU bF Be BF BG AJ Bp in
theorem aCz (l:List Int) (x:Sr) (hl:byt l) (n:Nat) (h0:0<n) (hn:n<=20) (m:Nat) (hm:m<=7) (hp:x.p<=1600) {S:Nat->Prop}{w:World}{he:Vs.Name->Option Nat}{h4:Vs.Name->Nat}{vs:Array Value} (qj:HOK S w he h4 (Hn ([sB l x].map some))) (q0:vs.size=3)
  (h7:∀j,j<3->RV S w he h4 (Hn ([sB l x].map some)) (([.ptr (.b 0) 0 0,.v (.int .i64 n),.v (.int .i64 m)]:List AV).getD j .junk) (vs.getD j undef)) :
  Calls Tryz.prog F.mF vs w λe w'=>∃v S' ρ' κ',e=.returned v∧Post S w he h4 [sB l x] S' w' ρ' κ' [some (sB l (ddF l n (pkV l x (m+1:Nat)).toNat (pkS l x (m+1:Nat)) []).2)]∧
   ∃O xs cs x0 c0,aNX w w' S' (ddF l n (pkV l x (m+1:Nat)).toNat (pkS l x (m+1:Nat)) []).1 v O xs cs x0 c0:=by
 have v:=aZ hl x (n:=(m+1:Nat)) (by omega);have U:IntKind.i64.wrap ((m:Int)+1)=((m+1:Nat):Int):=by rw[aI (by omega) (by omega)];omega
 have P0:=pick l x hl (m+1:Nat) (by omega);have p0:=aO l x (m+1:Nat);obtain⟨k0,qh⟩:∃k:Nat,pkV l x (m+1:Nat)=k:=⟨(pkV l x (m+1:Nat)).toNat,by omega⟩;rw[qh] at P0 v;rw[qh,BR];generalize pkS l x (m+1:Nat)=x1 at *
 have q4:8*n*k0<=160*8:=by
  have:8*n*k0<=(8*20)*8:=Nat.mul_le_mul (by omega) (by omega);omega
 generalize hR:ddF l n k0 x1 []=R;obtain⟨h1,h2,_⟩:=CdV.l02DrawDeckN_k.o;obtain⟨q3,G,hc⟩:=A7.1 h2;have hz:(Tryz.f90.body.map (zB Tryz.f90.ntmps (dF Tryz.prog)))=some true:=by kernel_rfl
 rw[G] at hz;have hf:=rE Tryz.mixed;refine aEP (dr:=dF Tryz.prog) (ac:=CdV.l02DrawDeckN) (hin:=[sB l x]) (args:=[.ptr (.b 0) 0 0,.v (.int .i64 n),.v (.int .i64 m)]) h1 G hc (by simpa using hz) (by rw[CdV.l02DrawDeckN_k.n];exact Bd rfl) qj q0 h7 λa M=>?_;generalize hd:(⟨Tryz.f90.ntmps,w,S,uQ he [sB l x],λj=>he (.b j),λj=>h4 (.b j),λj=>[sB l x][j]?⟩:Ctx)=C0 at M;have h3:C0.nt=Tryz.f90.ntmps:=by rw[←hd]
 have h6:C0.w0=w:=by rw[←hd]
 unfold CdV.l02DrawDeckN;refine At.step ⟨[(0,.ptr (.b 0) 0 0),(1,.v (.int .i64 n)),(2,.v (.int .i64 m))],[(.b 0,sB l x)]⟩ hf M h3 ?_ λa w1 S1 ρ1 κ1 M=>?_
 .simp -dsimp only[go_sem,U,sB]
  try simp[Vs.LeL,Vs.look,aB]
 refine At.step ⟨[(7,.loc (.t 9 0) 0 0),(0,.ptr (.b 0) 0 0),(1,.v (.int .i64 n)),(2,.v (.int .i64 m))],[(.t 9 0,.arr 1 [] false),(.b 0,sB l x)]⟩ hf M h3 ?_ λa w2 S2 ρ2 κ2 M=>?_
 .simp -dsimp only[go_sem,U,sB]
  try simp[Vs.LeL,Vs.look,aB,sB]
 refine At.seq (At.step ⟨[(0,.ptr (.b 0) 0 0),(1,.v (.int .i64 n)),(7,.loc (.t 9 0) 0 0),(8,.v (.int .i64 (k0:Int)))],[(.t 9 0,.arr 1 [] false),(.b 0,sB l x1)]⟩ hf M h3 ?_ λa w3 S3 ρ3 κ3 M=>?_)
 .simp -dsimp only[go_sem,U,sB];refine And.intro rfl ?_;refine aA.bor (by exact P0) rfl ?_;simp -dsimp only[go_sem,U,sB]
  try simp[Vs.LeL,Vs.look,aB,sB]
 refine At.block ?_;obtain⟨ρ3,κ3,M⟩:=M.uS (n:=.t 9 0) (m:=.t 7 0) (by decide) (by rfl)
 let T:Nat->List Value->Sr->St:=λi O y=>⟨[(0,.ptr (.b 0) 0 0),(1,.v (.int .i64 n)),(7,.loc (.t 7 0) 0 O.length),(8,.v (.int .i64 (i:Int)))],[(.t 7 0,.arr 1 (O.map (λs=>[AV.v s])) false),(.b 0,sB l y)]⟩
 let I:Nat->Act->World->Prop:=λi a w=>∃(O:List Value) (o:List (List Int)) (y:Sr) (D:Nat->Prop) (C:Ctx) (S:Nat->Prop) (ρ:Vs.Name->Option Nat) (κ:Vs.Name->Nat),ddF l n i y o=R∧O.length=o.length∧O.length+i=k0∧y.p+8*n*i<=2900∧C.nt=C0.nt∧Later C0 C∧OK C (T i O y).f a w S ρ κ∧(∀b,D b->C0.w0.heap.size<=b)∧Hid C D (.tup (o.map λr=>.sl 1 (E cI r))) (.tuple O.toArray)∧∃xs cs,aCD C.S0 C.w0 1 (o.map (E cI)) O xs cs∧∀j b,j<O.length->xs j=some b->D b
 refine At.loop I (λi a w hI=>?_) (n:=k0) ?_
 rotate_left
 .refine⟨[],[],x1,λ_=>False,C0.anew w3 S3 _ ρ3,S3,ρ3,κ3,hR,rfl,by simp,by omega,rfl,M.later,?_,λb G=>G.elim,⟨.tup _ _ rfl (by simp),λb G=>G.elim,λb G=>G.elim⟩,λ_=>none,λ_=>0,⟨rfl,by simp,by simp⟩,by simp⟩;exact M.anew.le (by simp[T,uS,Vs.LeL,Vs.look,aB,sB,Vs.rn,Vs.rnB,Vs.rnL,Vs.nmF])
 obtain⟨O,o,y,D,C,S,ρ,κ,ho,qz,q5,q2,qg,qb,M,hD,hh,xs,cs,qp,Z⟩:=hI;have ha:C.nt=Tryz.f90.ntmps:=qg.trans h3;refine At.seq (At.fw hf M ha (N:=fun σ'=>LeL σ' (T i O y)∧0<i) (E:=λe σ'=>match e with|.exit j=>j=0∧LeL σ' (T i O y)∧i=0|.ret=>False) ?_ (λa w hg=>?_) (λj a w hg=>?_) (λa w hg=>hg.no.elim))
 .simp only[T];simp -dsimp only[go_sem,U,sB];refine Br.mk (λhc=>?_) λhc=>?_
  .have qi:0<i:=by have:=BK hc;omega
   try simp -dsimp only[go_sem,U,sB]
   exact⟨by simp[Vs.LeL,Vs.look,aB,sB],qi⟩
  .have qv:i=0:=by have:=BU hc;omega
   try simp -dsimp only[go_sem,U,sB]
   exact⟨by simp[Vs.LeL,Vs.look,aB,sB],qv⟩
 rotate_left
 .obtain⟨σ',S',ρ',κ',⟨rfl,qc,rfl⟩,ht⟩:=hg;have M:=ht.le qc;simp only[Exit.then,Exit.inBlock,Bj];refine At.step ⟨[(6,.loc (.t 7 0) 0 O.length)],[(.t 7 0,.arr 1 (O.map λs=>[AV.v s]) false),(.b 0,sB l y)]⟩ hf M ha ?_ λa w4 S4 ρ4 κ4 J=>?_
  .simp only[T]
   try simp -dsimp only[go_sem,U,sB]
   simp[Vs.LeL,Vs.look,aB,sB]
  refine At.ret ⟨.inl rfl,J.defers,?_⟩
  obtain ⟨x,v,hx,q1,qq⟩:=aFc J (fn:=Tryz.f90) (K:=λx=>x=.loc (.t 7 0) 0 O.length) (by
    show aAC Tryz.prog _ _ [_]
    simp[aAC,aHh,Vs.look,yP])
  subst hx;rw[ddF] at ho;subst ho;have hv:=J.back qb
  have hu:=J.own (n:=.t 7 0) (rows:=O.map λs=>[AV.v s]) (by rfl) (λr hr=>by
      obtain⟨y,_,rfl⟩:=Bq.1 hr;rfl) (by simpa using q1)
  have qx:=qp.mono (S':=S4) (w':=w4) (λj b V G=>(hh.same J).2.2.1 b (Z j b V G)) λj b V G=>(hh.same J).1 b (Z j b V G);refine⟨v,qq,v,S4,ρ4,κ4,rfl,?_,O,xs,cs,ρ4 (.t 7 0),κ4 (.t 7 0),hu,qx,λb G=>⟨?_,J.hok.lt (n:=.t 7 0) (by rfl) G,λj V hx=>(hh.same J).2.2.2 b (Z j b V hx) (.t 7 0) (by rfl) G⟩,λj b V G=>⟨?_,(hh.same J).2.1 b (Z j b V G)⟩⟩
  .rw[←hd] at hv;refine OK.post (hout:=[sB l y]) hv λn b G=>?_;obtain⟨rfl,rfl⟩:=aD7 G;exact⟨rfl,aDc l y⟩
  .have qd:=hv.mine (.t 7 0) b (by rfl) G
   have hs:C0.Mut b->False:=λhm=>by
    rw[←hd] at hm;obtain⟨j,V,qa⟩:=hm;have h9:j=0:=by simpa using V
    subst h9;have hk:=hv.keep 0 (sB l y) rfl
    have e1:ρ4 (.b 0)=he (.b 0):=by
     have:=hk.1;rw[←hd] at this;exact this
    have:=J.hok.inj (.t 7 0) (.b 0) b (by rfl) (by rfl) G (e1.trans qa);cases this
   rcases qd with h|h
   .exact h6 ▸ h
   .exact(hs h).elim
  .exact h6 ▸ hD b (Z j b V G)
 obtain⟨σ',S',ρ',κ',⟨qc,qi⟩,ht⟩:=hg;have M:=ht.le qc;obtain⟨i,rfl⟩:∃j,i=j+1:=⟨i-1,by omega⟩;have hw:=aJj (k:=i) (by omega);rw[Nat.mul_succ] at q2;have LD:=aIE l y hl n h0 hn (by omega);have hq:=(xK l n y []).2;have h8:=(xK l n y []).1;simp only[Ai,Ca] at h8;rw[ddF] at ho;generalize hoF l n y []=H at *
 obtain⟨c,y2⟩:=H;dsimp only at hq h8 ho LD;show At Tryz.prog _ _ (.seq _ _) _ a w
 refine At.seq (At.block (At.halt (pre:=[⟨some 18,.mv (.tmp 7),none⟩,⟨some 19,.mv (.tmp 0),none⟩,⟨some 20,.mv (.tmp 1),none⟩,⟨some 21,.call (.func F.gI) [(.tmp 19),(.tmp 20)] [0],none⟩]) (post:=[⟨some 22,.bslice 1 1 [.v (.slice none 0 0)] [(0,(.tmp 21))],none⟩,⟨some 23,.append 1 24 (.tmp 18) (.tmp 22),none⟩,⟨some 7,.mv (.tmp 23),none⟩]) M ha ?_));simp only[T];simp -dsimp only[go_sem,U,sB];refine And.intro rfl ?_;refine aA.bor (by exact LD) rfl ?_;simp -dsimp only[go_sem,U,sB];intro a w S2 ρ2 κ2 qk;have qy:(E cI c).length=n:=by rw[aH,h8]
 let σA:St:=⟨[(21,.agg [.loc (.t 21 1) 0 (E cI c).length]),(18,.loc (.t 7 0) 0 O.length),(0,.ptr (.b 0) 0 0),(1,.v (.int .i64 n)),(7,.loc (.t 7 0) 0 O.length),(8,.v (.int .i64 ((i+1:Nat):Int)))],[(.t 21 1,.arr 1 (E cI c) false),(.t 7 0,.arr 1 (O.map (λs=>[AV.v s])) false),(.b 0,sB l y2)]⟩
 have Y:OK C σA.f a w S2 ρ2 κ2:=qk.le (by simp[σA,Vs.LeL,Vs.look,aB,qy,sB]);obtain⟨s,C',hy,ql,qw,⟨sb,sn,sc,rfl⟩,qt,qs,hu⟩:=Y.bury (n:=.t 21 1) (k:=1) (rows:=E cI c) (t:=21) rfl (aHI c) rfl hh;have qf:=Y.back qb;have h5:=(qp.mono (S':=S2) (w':=w) (λj b V G=>(hh.same Y).2.2.1 b (Z j b V G)) λj b V G=>(hh.same Y).1 b (Z j b V G)).snoc hu (λj b V G=>(hh.same Y).2.2.2 b (Z j b V G) (.t 21 1) (by rfl));have e3:o.map (E cI)++[E cI c]=(o++[c]).map (E cI):=by rw[Bu];rfl
 rw[e3,←qt,←qs] at h5
 have qu:∀b,(D b∨ρ2 (.t 21 1)=some b)->C0.w0.heap.size<=b:=λb G=>by
  rcases G with G|G
  .exact hD b G
  .have hs:C0.Mut b->False:=λhm=>by
    rw[←hd] at hm;obtain⟨j,V,qa⟩:=hm;have h9:j=0:=by simpa using V
    subst h9;have hk:=qf.keep 0 (sB l y2) rfl
    have e1:ρ2 (.b 0)=he (.b 0):=by
     have:=hk.1;rw[←hd] at this;exact this
    have:=Y.hok.inj (.t 21 1) (.b 0) b (by rfl) (by rfl) G (e1.trans qa);cases this
   rcases qf.mine (.t 21 1) b (by rfl) G with h|h
   .exact h
   .exact(hs h).elim
 let σB:St:=⟨[(21,.agg [.v (.slice sb sn sc)]),(18,.loc (.t 7 0) 0 O.length),(0,.ptr (.b 0) 0 0),(1,.v (.int .i64 n)),(7,.loc (.t 7 0) 0 O.length),(8,.v (.int .i64 ((i+1:Nat):Int)))],[(.t 7 0,.arr 1 (O.map (λs=>[AV.v s])) false),(.b 0,sB l y2)]⟩
 have qo:OK C' σB.f a w S2 ρ2 κ2:=ql.le (by simp[σA,σB,iR,Vs.LeL,Vs.look,aB,Vs.scr,aBI,Vs.AV.has,mD,Vs.Blk.has,sB]);have qe:(O.map λs=>[AV.v s])++[[AV.v (.slice sb sn sc)]]=(O++[Value.slice sb sn sc]).map λs=>[AV.v s]:=by simp
 have qr:(O.map λs=>[AV.v s]).length=O.length:=by simp
 let τ:St:=⟨[(0,.ptr (.b 0) 0 0),(1,.v (.int .i64 n)),(7,.loc (.t 23 0) 0 (O.length+1)),(8,.v (.int .i64 ((i+1:Nat):Int)))],[(.t 23 0,.arr 1 ((O++[Value.slice sb sn sc]).map (λs=>[AV.v s])) false),(.b 0,sB l y2)]⟩
 refine⟨C',σB,S2,ρ2,κ2,fun σ'=>LeL σ' τ,hy.nt.trans ha,qo,?_,λa w hg=>?_⟩
 .simp only[σB,τ];simp -dsimp only[go_sem,qe,qr,hw,sB]
  and_intros
  all_goals first|omega|(simp[Vs.LeL,Vs.look,aB,sB];done)|(simp[Vs.LeL,Vs.look,aB,sB];omega)
 obtain⟨S4,ρ4,κ4,J⟩:=hg.le;obtain⟨ρ5,κ5,qm⟩:=J.uS (n:=.t 23 0) (m:=.t 7 0) (by decide) (by rfl);show At Tryz.prog _ _ (.region _ _ _) _ a w
 refine At.fw hf qm (hy.nt.trans ha) (N:=fun σ'=>LeL σ' (T i (O++[Value.slice sb sn sc]) y2)) (E:=λ_ _=>False) ?_ (λa w hg=>?_) (λj a w hg=>hg.no.elim) (λa w hg=>hg.no.elim)
 .simp only[τ,T,uS];simp -dsimp only[go_sem,qe,qr,hw,sB]
  first|(simp[Vs.LeL,Vs.look,aB,hw,sB];done)
 obtain⟨S6,ρ6,κ6,qn⟩:=hg.le;refine⟨i,by omega,O++[Value.slice sb sn sc],o++[c],y2,_,C',S6,ρ6,κ6,ho,by simp[qz],by simp;omega,by omega,hy.nt.trans qg,qb.trans hy,qn,qu,?_,_,_,h5,?_⟩
 .rw[Bu];exact qw
 .intro j b V G;simp only[AX,Cf] at V;split at G
  .exact .inr G
  .exact .inl (Z j b (by omega) G)
end
section
variable [Vs.Envs]
attribute [local irreducible] Vs.Fn nxV nxS pkV pkS pt crd gG dtF jD hoF hoR mid
open Go.Vs.Q in
def CdV.qW:aD:=s [m 4 0,o 5 (.call (.func F.aF) [4,(k 3)] [0])] [0,1,5]<|.block 0 (s [en 7 5 0,m 6 7] [0,1,5,6]<|.cond 6 (.region [m 8 1,o 9 (.bslice 1 0 [.v (.int .i64 (0))] []),nc 10 8,fa 11 0 10,⟨none,.store 1 11 9,none⟩] [] []) (s [en 13 5 1,m 12 13] [0,1,5,12]<|.cond 12 (.region [m 14 1,m 15
 0,o 16 (.call (.func F.aF) [15,(k 2)] [0]),o 17 (.bin .add (k 20) 16),o 18 (.mk 1 8 [.v (.int .i64 (0))] 17),nc 19 14,fa 20 0 19,⟨none,.store 1 20 18,none⟩] [] []) (s [en 22 5 2,m 21 22] [0,1,21]<|.cond 21 (s [m 23 1,nc 24 23,fa 25 0 24,lf 26 1 25,ln 27 26,o 28 (.bin .gtr 27 (k 0))]
 [0,1,28]<|.cond 28 (.region [m 29 1,nc 30 29,fa 31 0 30,lf 32 1 31,m 33 0,m 34 1,nc 35 34,fa 36 0 35,lf 37 1 36,ln 38 37,o 39 (.call (.func F.aF) [33,38] [0]),m 40 0,o 41 (.bslice 1 5 [.v (.int .i64 (0))] [(0,(k (-1))),(1,(k 0)),(2,(k 4095)),(3,(k 4096)),(4,(k
 (-9223372036854775808)))]),o 42 (.call (.func F.bE) [40,41] [0]),ix 43 1 32 39,⟨none,.store 1 43 42,none⟩] [] [3000000]) .skip) .skip)))
theorem CdV.l02Spoil_rs:Tryz.f92.results.toList=[]:=rfl
theorem CdV.l02Spoil_nt:Tryz.f92.ntmps=44:=rfl
theorem CdV.l02Spoil_ok:xQ Tryz.prog [([[],[0],[1],[2],[],[],[5],[6],[7],[8],[4,9],[],[],[11,12,10],[3,10,13],[14]],[0,1,2,4,5,6,7,11])] 92 Tryz.f92 CdV.qW:=⟨Tryz.func92,by kernel_rfl,by decide +kernel⟩
attribute [local go_sem] Int.reduceBEq Int.reduceBNe cC aH Af Ag Ao Aq Ae Aj Ad Al Ac Ai Ap Av Am Ak AR BQ Vs.Name.t.injEq Ar AY aT aU bF Be BF BG AJ Bp Vs.Name.b.injEq Nat.zero_ne_one Nat.one_ne_zero aFk aMW aMY aLc aMX aOs aMV Cu in
theorem qW (l:List Int) (y:Sr) (hl:byt l) (c:List Int) (hc:c.length<=20) (hp:y.p<=3000):∃(xx:AV) (c':List Int) (z:Sr),(xx=.loc (.b 2) 0 c.length∨∃c2:List Int,xx=.sl 1 (E cI c2)∧c2.length<=100)∧c'.length=c.length∧z.p<=y.p+8∧
  ∀J O:List Value,J.length+O.length<=100->Vs.Fn Tryz.prog F.sU [sB l y,.var (mid J (.loc (.b 2) 0 c.length) O) false,.arr 1 (E cI c) false] [.ptr (.b 0) 0 0,.ptr (.b 1) 0 J.length] (.tup []) [some (sB l z),some (.var (mid J xx O) false),some (.arr 1 (E cI c') false)]:=by
 have P1:=pick l y hl 3 (by omega);have v1:=aZ hl y (n:=3) (by omega);have q1:=aO l y 3;generalize pkV l y 3=r1 at *
 generalize pkS l y 3=y1 at *
 have G:(E cI c).length=c.length:=aH _;by_cases h0:r1=0
 .have H:(r1==0)=true:=BO.2 h0;refine⟨.sl 1 [],c,y1,.inr ⟨[],rfl,by simp⟩,rfl,by omega,λJ O ha=>?_⟩;refine CdV.l02Spoil_ok.fn Tryz.mixed (hin:=[sB l y,.var (mid J (.loc (.b 2) 0 c.length) O) false,.arr 1 (E cI c) false]) _ _ [.b 0,.b 1,.b 2] [sB l y1,.var (mid J (.sl 1 []) O) false,.arr 1 (E cI c) false] CdV.l02Spoil_nt CdV.l02Spoil_rs rfl (by simp) rfl (λj hj=>by match j,hj with|0,_=>rfl|1,_=>rfl|2,_=>rfl) λX=>?_;unfold CdV.qW;simp -dsimp only[go_sem,H,G,sB]
  repeat' (first
    |(refine RgK.mk rfl ?_;simp -dsimp only[go_sem,H,G,sB])
    |(refine RgK.ord Tryz.mixed [[],[0],[1],[2],[],[],[5],[6],[7],[8],[4,9],[],[],[11,12,10],[3,10,13],[14]] [0,1,2,4,5,6,7,11] rfl rfl (by decide) (T0:=[3,8,9,10,12,13,14,15]) rfl (n:=8) rfl rfl ?_;simp -dsimp only[go_sem,vcF,pv,vcO,Bt,BI,Option.isSome_some,H,G,sB])
    |(refine OrK.yes rfl ?_ ?_<;>try simp -dsimp only[go_sem,vcO,H,G,sB])
    |refine OrK.no rfl ?_
    |exact OrK.nil
    |(refine Br.mk (λh=>?_) (λh=>?_)<;>simp -dsimp only[go_sem,h,H,G,sB])
    |(refine aA.bor (by first|exact P1) rfl ?_;simp -dsimp only[go_sem,H,G,sB])
    |(refine aC9 ?_;try simp -dsimp only[go_sem,H,G,sB])
    |fail)
  all_goals first|omega|exact⟨_,_,rfl,rfl⟩
 have H:(r1==0)=false:=AB.2 h0;by_cases h1:r1=1
 .have I:(r1==1)=true:=BO.2 h1;have P2:=pick l y1 hl 2 (by omega);have v2:=aZ hl y1 (n:=2) (by omega);have q2:=aO l y1 2;generalize pkS l y1 2=y2 at *
  obtain⟨m,hm⟩:∃m:Nat,pkV l y1 2=m:=⟨(pkV l y1 2).toNat,by omega⟩;rw[hm] at P2 v2;have Y:IntKind.i64.wrap (20+(m:Int))=((20+m:Nat):Int):=by rw[aI (by omega) (by omega)];omega
  have V:(List.replicate (20+m) [AV.v (.int .i64 0)]).take (20+m)=E cI (List.replicate (20+m) 0):=by
   rw[Ah (by simp)];simp[E,cI]
  refine⟨.sl 1 (E cI (List.replicate (20+m) 0)),c,y2,.inr ⟨_,rfl,by simp;omega⟩,rfl,by omega,λJ O ha=>?_⟩;refine CdV.l02Spoil_ok.fn Tryz.mixed (hin:=[sB l y,.var (mid J (.loc (.b 2) 0 c.length) O) false,.arr 1 (E cI c) false]) _ _ [.b 0,.b 1,.b 2] [sB l y2,.var (mid J (.sl 1 (E cI (List.replicate (20+m) 0))) O) false,.arr 1 (E cI c) false] CdV.l02Spoil_nt CdV.l02Spoil_rs rfl (by simp) rfl (λj hj=>by match j,hj with|0,_=>rfl|1,_=>rfl|2,_=>rfl) λX=>?_;unfold CdV.qW;simp -dsimp only[go_sem,H,I,G,Y,V,sB]
  repeat' (first
    |(refine RgK.mk rfl ?_;simp -dsimp only[go_sem,H,I,G,Y,V,sB])
    |(refine RgK.ord Tryz.mixed [[],[0],[1],[2],[],[],[5],[6],[7],[8],[4,9],[],[],[11,12,10],[3,10,13],[14]] [0,1,2,4,5,6,7,11] rfl rfl (by decide) (T0:=[3,8,9,10,12,13,14,15]) rfl (n:=8) rfl rfl ?_;simp -dsimp only[go_sem,vcF,pv,vcO,Bt,BI,Option.isSome_some,H,I,G,Y,V,sB])
    |(refine OrK.yes rfl ?_ ?_<;>try simp -dsimp only[go_sem,vcO,H,I,G,Y,V,sB])
    |refine OrK.no rfl ?_
    |exact OrK.nil
    |(refine Br.mk (λh=>?_) (λh=>?_)<;>simp -dsimp only[go_sem,h,H,I,G,Y,V,sB])
    |(refine aA.bor (by first|exact P1|exact P2) rfl ?_;simp -dsimp only[go_sem,H,I,G,Y,V,sB])
    |(refine aC9 ?_;try simp -dsimp only[go_sem,H,I,G,Y,V,sB])
    |fail)
  all_goals first|omega|exact⟨_,_,rfl,rfl⟩
 have I:(r1==1)=false:=AB.2 h1;have U:(r1==2)=true:=BO.2 (by omega);by_cases hb:c.length=0
 .have M:decide ((c.length:Int)>0)=false:=AQ (by omega);refine⟨.loc (.b 2) 0 c.length,c,y1,.inl rfl,rfl,by omega,λJ O ha=>?_⟩;refine CdV.l02Spoil_ok.fn Tryz.mixed (hin:=[sB l y,.var (mid J (.loc (.b 2) 0 c.length) O) false,.arr 1 (E cI c) false]) _ _ [.b 0,.b 1,.b 2] [sB l y1,.var (mid J (.loc (.b 2) 0 c.length) O) false,.arr 1 (E cI c) false] CdV.l02Spoil_nt CdV.l02Spoil_rs rfl (by simp) rfl (λj hj=>by match j,hj with|0,_=>rfl|1,_=>rfl|2,_=>rfl) λX=>?_;unfold CdV.qW;simp -dsimp only[go_sem,H,I,U,M,G,sB]
  repeat' (first
    |(refine RgK.mk rfl ?_;simp -dsimp only[go_sem,H,I,U,M,G,sB])
    |(refine RgK.ord Tryz.mixed [[],[0],[1],[2],[],[],[5],[6],[7],[8],[4,9],[],[],[11,12,10],[3,10,13],[14]] [0,1,2,4,5,6,7,11] rfl rfl (by decide) (T0:=[3,8,9,10,12,13,14,15]) rfl (n:=8) rfl rfl ?_;simp -dsimp only[go_sem,vcF,pv,vcO,Bt,BI,Option.isSome_some,H,I,U,M,G,sB])
    |(refine OrK.yes rfl ?_ ?_<;>try simp -dsimp only[go_sem,vcO,H,I,U,M,G,sB])
    |refine OrK.no rfl ?_
    |exact OrK.nil
    |(refine Br.mk (λh=>?_) (λh=>?_)<;>simp -dsimp only[go_sem,h,H,I,U,M,G,sB])
    |(refine aA.bor (by first|exact P1) rfl ?_;simp -dsimp only[go_sem,H,I,U,M,G,sB])
    |(refine aC9 ?_;try simp -dsimp only[go_sem,H,I,U,M,G,sB])
    |fail)
  all_goals first|omega|exact⟨_,_,rfl,rfl⟩
 have M:decide ((c.length:Int)>0)=true:=A9 (by omega);have P2:=pick l y1 hl (c.length:Nat) (by omega);have v2:=aZ hl y1 (n:=(c.length:Nat)) (by omega);have q2:=aO l y1 (c.length:Nat);generalize pkS l y1 (c.length:Nat)=y2 at *
 obtain⟨i,hi⟩:∃i:Nat,pkV l y1 (c.length:Nat)=i:=⟨(pkV l y1 (c.length:Nat)).toNat,by omega⟩;rw[hi] at P2 v2;have AM:=among l y2 hl [-1,0,4095,4096,-9223372036854775808] (by omega) (by simp) (by simp);rw[show E cI [-1,0,4095,4096,-9223372036854775808]=[[.v (.int .i64 (-1))],[.v (.int .i64 0)],[.v (.int .i64 4095)],[.v (.int .i64 4096)],[.v (.int .i64 (-9223372036854775808))]] from rfl] at AM;have q3:=aO l y2 ((([-1,0,4095,4096,-9223372036854775808]:List Int).length:Nat):Int);generalize pkS l y2 ((([-1,0,4095,4096,-9223372036854775808]:List Int).length:Nat):Int)=y3 at *
 generalize([-1,0,4095,4096,-9223372036854775808]:List Int).getD _ 0=v3 at AM
 have Z:(E cI c).getD i []=[.v (.int .i64 (c.getD i 0))]:=by
  rw[aW (show i<c.length by omega)];simp[cI,List.getD,show i<c.length by omega]
 have si:(E cI c).set i [.v (.int .i64 v3)]=E cI (c.set i v3):=by simp[E,cI,Dc]
 have hd:(i:Int)<c.length:=by omega
 refine⟨.loc (.b 2) 0 c.length,c.set i v3,y3,.inl rfl,by simp,by omega,λJ O ha=>?_⟩;refine CdV.l02Spoil_ok.fn Tryz.mixed (hin:=[sB l y,.var (mid J (.loc (.b 2) 0 c.length) O) false,.arr 1 (E cI c) false]) _ _ [.b 0,.b 1,.b 2] [sB l y3,.var (mid J (.loc (.b 2) 0 c.length) O) false,.arr 1 (E cI (c.set i v3)) false] CdV.l02Spoil_nt CdV.l02Spoil_rs rfl (by simp) rfl (λj hj=>by match j,hj with|0,_=>rfl|1,_=>rfl|2,_=>rfl) λX=>?_;unfold CdV.qW;simp -dsimp only[go_sem,H,I,U,M,G,Z,si,sB]
 repeat' (first
   |(refine RgK.mk rfl ?_;simp -dsimp only[go_sem,H,I,U,M,G,Z,si,sB])
   |(refine RgK.ord Tryz.mixed [[],[0],[1],[2],[],[],[5],[6],[7],[8],[4,9],[],[],[11,12,10],[3,10,13],[14]] [0,1,2,4,5,6,7,11] rfl rfl (by decide) (T0:=[3,8,9,10,12,13,14,15]) rfl (n:=8) rfl rfl ?_;simp -dsimp only[go_sem,vcF,pv,vcO,Bt,BI,Option.isSome_some,H,I,U,M,G,Z,si,sB])
   |(refine OrK.yes rfl ?_ ?_<;>try simp -dsimp only[go_sem,vcO,H,I,U,M,G,Z,si,sB])
   |refine OrK.no rfl ?_
   |exact OrK.nil
   |(refine Br.mk (λh=>?_) (λh=>?_)<;>simp -dsimp only[go_sem,h,H,I,U,M,G,Z,si,sB])
   |(refine aA.bor (by first|exact P1|exact P2) rfl ?_;simp -dsimp only[go_sem,H,I,U,M,G,Z,si,sB])
   |(refine aA.borM (by first|exact AM) rfl ?_;simp -dsimp only[go_sem,H,I,U,M,G,Z,si,sB])
   |(refine aC9 ?_;try simp -dsimp only[go_sem,H,I,U,M,G,Z,si,sB])
   |fail)
 all_goals first|omega|exact⟨_,_,rfl,rfl⟩
end
section
variable [Vs.Envs]
attribute [local irreducible] Vs.Fn nxV nxS pkV pkS pt crd gG dtF jD hoF hoR
theorem aLd {A B:List Value}{x:AV}{j:Nat} (G:j<(mid A x B).length) (I:j≠A.length) (s:Value):(mid A x B).getD j .junk=.v ((A++s::B).getD j undef):=by
 unfold mid at G⊢;rw[A8,A8];rcases Db j A.length with h|h
 .rw[BC (by simpa using h),BC h,Cv];rw[Ba h];rfl
 .rw[Bi (by simpa using h),Bi h,Bh];obtain⟨k,H⟩:∃k,j-A.length=k+1:=⟨j-A.length-1,by omega⟩;rw[H,Bp,Bp,Cv];have F:k<B.length:=by simp at G;omega
  rw[Ba F];rfl
theorem aKu (l:List Int) (y:Sr) (hl:byt l) (d:List (List Int)) (hd:∀c,c∈d->c.length<=20) (q9:d.length<=8) (j:Nat) (hj:j<d.length) (hp:y.p<=3000):∃(d':List (List Int)) (z:Sr),d'.length=d.length∧(∀c,c∈d'->c.length<=100)∧z.p<=y.p+8∧
  ∀ {C:Ctx}{σ:St}{a:Act}{w:World}{S:Nat->Prop}{ρ:Vs.Name->Option Nat}{κ:Vs.Name->Nat}{J:List Value}{xs:Nat->Option Nat}{cs:Nat->Nat}{u0 u1:Value} (H:OK C σ.f a w S ρ κ) (h0:σ.f.h (.b 0)=some (sB l y)) (hR:σ.f.h (.t 11 0)=some (.arr 1 (J.map λs=>[AV.v s]) false))
   (hq:aCD S w 1 (d.map (E cI)) J xs cs) (I:∀i b,i<J.length->xs i=some b->C.w0.heap.size<=b∧b<w.heap.size∧∀m,(σ.f.h m).isSome->ρ m≠some b) (hy:∀b,ρ (.t 11 0)=some b->C.w0.heap.size<=b) (h4:RV S w ρ κ σ.f.h (.loc (.t 11 0) 0 J.length) (a.tmps.getD 4 undef))
   (qr:RV S w ρ κ σ.f.h (.ptr (.b 0) 0 0) u0) (qs:RV S w ρ κ σ.f.h (.ptr (.t 11 0) j 0) u1),
   Calls Tryz.prog F.sU #[u0,u1] w λe w'=>∃u S',e=.returned u∧OK C (⟨[(4,.sl 1 (E cC d'))],[(.b 0,sB l z)]⟩:St).f a w' S' ρ κ:=by
 have qu:(d.getD j []).length<=20:=by
  rw[A8,Ba hj];exact hd _ (Aa hj)
 obtain⟨xx,c',z,q7,qt,hz,SP⟩:=qW l y hl (d.getD j []) qu hp
 obtain ⟨U,qk,ql⟩:∃U:List Int,U.length<=100∧((xx=.loc (.b 2) 0 (d.getD j []).length∧U=c')∨xx=.sl 1 (E cI U)):=by
  rcases q7 with h|⟨c2,h,h2⟩
  .exact⟨c',by omega,.inl ⟨h,rfl⟩⟩
  .exact⟨c2,h2,.inr h⟩
 refine⟨d.set j U,z,by simp,λc hc=>?_,hz,?_⟩
 .rcases List.mem_or_eq_of_mem_set hc with h|h
  .exact Bl (hd c h) (by omega)
  .rw[h];exact qk
 intro C σ a w S ρ κ J xs cs u0 u1 H h0 hR hq I hy h4 qr qs;have qn:J.length=d.length:=by rw[←hq.len];simp
 have M:j<J.length:=by omega
 generalize q5:a.tmps.getD 4 undef=v0 at h4;obtain⟨A1,s,A2,ha,V⟩:∃A1 s A2,J=A1++s::A2∧A1.length=j:=⟨J.take j,J[j],J.drop (j+1),by rw[←Ci M,BN],by simp;omega⟩;have qq:J.getD j undef=s:=by rw[ha,←V];simp
 have qv:(d.map (E cI)).getD j []=E cI (d.getD j []):=by
  rw[A8,A8,Cv,Ba hj];rfl
 have hv:=hq.row j M;rw[qv,qq] at hv;have qw:(E cI (d.getD j [])).length=(d.getD j []).length:=aH _
 have SP := SP A1 A2 (by have:J.length=A1.length+(A2.length+1):=by rw[ha];simp
                         omega)
 let ρ0:Vs.Name->Option Nat:=λm=>match m with|.b 0=>ρ (.b 0)|.b 1=>ρ (.t 11 0)|.b 2=>xs j|_=>none
 let κ0:Vs.Name->Nat:=λm=>match m with|.b 0=>κ (.b 0)|.b 1=>κ (.t 11 0)|.b 2=>cs j|_=>0
 let hin:List Blk:=[sB l y,.var (mid A1 (.loc (.b 2) 0 (d.getD j []).length) A2) false,.arr 1 (E cI (d.getD j [])) false]
 have hw:(σ.f.h (.t 11 0)).isSome:=by rw[hR];rfl
 have Y:(σ.f.h (.b 0)).isSome:=by rw[h0];rfl
 have hn:∀b,ρ (.b 0)=some b->ρ (.t 11 0)=some b->False:=λb h1 h2=>by
  have:=H.hok.inj (.b 0) (.t 11 0) b Y hw h1 h2;cases this
 obtain⟨ja,qj⟩:=H.hok.blk (.t 11 0) _ hR
 obtain ⟨x,cells,T,fr,g1,g2,g3,g4,g5,g6,g7,g8⟩:∃x cells T fr,ρ (.t 11 0)=some x∧w.heap[x]? = some (.cells cells T fr)∧aHY fr cells.size∧(false=false->¬S x)∧(false=true->S x)∧cells.size=κ (.t 11 0)∧(J.map λs=>[AV.v s]).length*1<=cells.size∧
   ∀i jj,i<(J.map λs=>[AV.v s]).length->jj<1->(cells.getD (i*1+jj) undef).oneCell'=true∧RC S w (((J.map λs=>[AV.v s]).getD i []).getD jj .junk) (cells.getD (i*1+jj) undef):=by
  rcases qj with⟨_,h⟩|h
  .exfalso;have:J=[]:=by simpa using h
   rw[this] at M;simp at M
  .exact h
 rw[Bh,Nat.mul_one] at g7
 have qa:∀i,i<J.length->(cells.getD i undef).oneCell'=true∧cells.getD i undef=J.getD i undef:=λi hi=>by
  have:=g8 i 0 (by simpa using hi) (by omega);rw[Nat.mul_one,Cu] at this;refine⟨this.1,?_⟩;have h2:=this.2
  rw [show((J.map λs=>[AV.v s]).getD i []).getD 0 .junk=.v (J.getD i undef) by
    rw[A8 (l:=J.map _),Cv,Ba hi,A8 (l:=J),Ba hi];rfl] at h2
  exact dD (ρ:=λ_=>none) (κ:=λ_=>0) (h:=λ_=>none) (.clo h2)
 have hN:∀n b,Hn (hin.map some) n=some b->(n=.b 0∧b=sB l y)∨(n=.b 1∧b=.var (mid A1 (.loc (.b 2) 0 (d.getD j []).length) A2) false)∨(n=.b 2∧b=.arr 1 (E cI (d.getD j [])) false):=by
  intro n b h
  match n,h with
  |.b 0,h=>exact .inl ⟨rfl,by simpa[Hn,hin] using h.symm⟩
  |.b 1,h=>exact .inr (.inl ⟨rfl,by simpa[Hn,hin] using h.symm⟩)
  |.b 2,h=>exact .inr (.inr ⟨rfl,by simpa[Hn,hin] using h.symm⟩)
  |.b (i+3),h=>simp[Hn,hin] at h
  |.t _ _,h=>simp[Hn] at h
 have qc:(mid A1 (.loc (.b 2) 0 (d.getD j []).length) A2).length=J.length:=by rw[aFk,ha];simp
 have qo:HOK S w ρ0 κ0 (Hn (hin.map some)):=by
  refine⟨λn b G=>?_,λn m b h1 h2 h3 h4=>?_,H.hok.dom,H.hok.env⟩
  .rcases hN n b G with⟨rfl,rfl⟩|⟨rfl,rfl⟩|⟨rfl,rfl⟩
   .exact(H.hok.blk (.b 0) _ h0).mono (λ_ h=>h) (λ_ _ h=>h) (λ_ _=>rfl) (λ_ _=>rfl) rfl rfl λm hm=>by rw[aDc] at hm;cases hm
   .refine⟨x,cells,T,fr,g1,g2,g3,λh=>g4 h,λh=>(by cases h),g6,by rw[qc];exact g7,λi hi=>?_⟩;rw[qc] at hi;obtain⟨e1,e2⟩:=qa i hi;refine⟨e1,?_⟩;rw[e2];by_cases Z:i=j
    .subst Z;rw[←V,aF7,V,qq,←qw];exact .loc _ _ _ _ (aAz.of_own hv rfl rfl rfl)
    .rw[aLd (by rw[qc];exact hi) (by rw[V];exact Z) s,←ha];exact .clo (.v _)
   .have:=hv.blk;simp only[xU] at this⊢;exact this
  .obtain⟨b1,hf⟩:=AA.1 h1;obtain⟨b2,hg⟩:=AA.1 h2;rcases hN n b1 hf with⟨rfl,_⟩|⟨rfl,_⟩|⟨rfl,_⟩<;>rcases hN m b2 hg with⟨rfl,_⟩|⟨rfl,_⟩|⟨rfl,_⟩<;>(first|rfl|exfalso)
   .exact hn b h3 h4
   .exact(I j b M h4).2.2 (.b 0) Y h3
   .exact hn b h4 h3
   .exact(I j b M h4).2.2 (.t 11 0) hw h3
   .exact(I j b M h3).2.2 (.b 0) Y h4
   .exact(I j b M h3).2.2 (.t 11 0) hw h4
 have h6:∀b,uQ ρ0 hin b->ρ (.b 0)=some b∨ρ (.t 11 0)=some b∨xs j=some b:=by
  rintro b ⟨i,hi,G⟩
  match i,hi,G with
  |0,_,G=>exact .inl G
  |1,_,G=>exact .inr (.inl G)
  |2,_,G=>exact .inr (.inr G)
  | i+3,hi,_ =>
   have h3:i+3<3:=hi;omega
 refine(SP.use S w ρ0 κ0 #[u0,u1] qo (λb G=>?_) rfl λi hi=>?_).mono ?_
 .simp only[Am,Ak,AR] at G;rcases G with rfl|rfl|rfl<;>rfl
 .match i,hi with
  | 0,_ =>
   refine .ptr _ _ _ _ λb G=>?_;rcases hN _ b G with⟨_,rfl⟩|⟨h,_⟩|⟨h,_⟩
   .exact eH qr _ h0
   .cases h
   .cases h
  | 1,_ =>
   refine .ptr _ _ _ _ λb G=>?_;rcases hN _ b G with⟨h,_⟩|⟨_,rfl⟩|⟨h,_⟩
   .cases h
   .obtain⟨x2,qe,hu⟩:=eH qs _ hR;refine⟨x2,qe,?_⟩;show u1=_
    rw[hu,V];simp[Blk.k]
   .cases h
 rintro e w' ⟨v,S',ρ',κ',rfl,hpo,hr⟩;obtain⟨hx,qf,_⟩:=hpo.keep 0 (sB l z) (by simp) rfl;obtain⟨qg,jb,_⟩:=hpo.keep 1 (.var (mid A1 xx A2) false) (by simp) rfl;obtain⟨qh,jc,_⟩:=hpo.keep 2 (.arr 1 (E cI c') false) (by simp) rfl;have hx:ρ' (.b 0)=ρ (.b 0):=hx;have qf:κ' (.b 0)=κ (.b 0):=qf;have qg:ρ' (.b 1)=ρ (.t 11 0):=qg;have qh:ρ' (.b 2)=xs j:=qh
 have h7:∀b,b<w.heap.size->ρ (.b 0)≠some b->ρ (.t 11 0)≠some b->xs j≠some b->w'.heap[b]? = w.heap[b]?:=λb G q1 q2 q3=>hpo.old b G λhm=>by
  rcases h6 b hm with h|h|h
  .exact q1 h
  .exact q2 h
  .exact q3 h
 let S2:Nat->Prop:=λb=>S' b∨ρ (.t 11 0)=some b∨∃i,i<J.length∧xs i=some b
 have qd:RC S2 w' (.sl 1 (E cC (d.set j U))) v0:=by
  obtain⟨_,qi,cap,rfl,q2,q3,q4,_⟩:=iT h4 1 (J.map λs=>[AV.v s]) false hR;obtain⟨x1,q6,h9⟩:=q4 (by omega);have:x1=x:=Ay (q6.symm.trans g1);subst this;obtain⟨x2,O,T',q8,r1,r2,r3,r4,r5,r6,r7,r8⟩:=hpo.hok.blk (.b 1) (.var (mid A1 xx A2) false) rfl;have qe:x2=x1:=Ay (r1.symm.trans (qg.trans g1));subst qe;have h5:(mid A1 xx A2).length=J.length:=by rw[aFk,ha];simp
  rw[h5] at r7 r8;have he:(E cC (d.set j U)).length=J.length:=by rw[aH,Ap,qn]
  rw[←he];refine .sl 1 _ qi cap x2 0 (λi=>O.getD i undef) (λ_=>⟨h9.trans (by simp),.inr (.inl g1)⟩) (λi jj hi qm=>?_) (λi jj hi qm=>?_) (λi jj hi qm=>?_) (λi hi=>?_) ⟨by rw[he];exact q2,q3⟩
  .obtain rfl:jj=0:=by omega
   rw[he] at hi;have:0+(i*1+0)<O.size:=by omega
   rw[Vs.cell_of_row r2 this];simp
  .obtain rfl:jj=0:=by omega
   rw[he] at hi;have:=(r8 i hi).1;simpa using this
  .obtain rfl:jj=0:=by omega
   rw[he] at hi;have qb:i<(d.set j U).length:=by rw[Ap];omega
   have h8:=(r8 i hi).2;refine(?_:RC S2 w' (((E cC (d.set j U)).getD i []).getD 0 .junk) (O.getD (i*1+0) undef));rw[show((E cC (d.set j U)).getD i []).getD 0 .junk=.sl 1 (E cI (d.set j U)[i]) by rw[aW qb];rfl,Nat.mul_one,Cu];by_cases Z:i=j
   .subst Z;rw[List.getElem_set_self];rw[←V,aF7] at h8;rw[V] at h8;rcases ql with⟨e,rfl⟩|e
    .rw[e] at h8;have hg:=hpo.hok.blk (.b 2) (.arr 1 (E cI U) false) rfl;have qz:(d.getD i []).length=(E cI U).length:=by rw[aH,qt]
     rw[qz] at h8;have q0:=iT h8
     have ho:Own S' w' (ρ' (.b 2)) (κ' (.b 2)) 1 (E cI U) (O.getD i undef):=⟨λk' l' z' qy=>by
       obtain⟨rfl,rfl,rfl⟩:1=k'∧E cI U=l'∧false=z':=by simpa using qy
       exact q0 1 (E cI U) false rfl,hg,aHI U⟩
     exact ho.rc.mono (λb G=>.inr (.inr ⟨i,M,qh ▸ G⟩)) λ_ _=>rfl
    .rw[e] at h8;exact(yX h8).mono (λ_ h=>.inl h) λ_ _=>rfl
   .rw[List.getElem_set_ne (DN Z)];rw[aLd (by rw[h5];exact hi) (by rw[V];exact Z) s,←ha] at h8;rw[dD h8];have qp:=(hq.row i hi).rc;have hid:i<d.length:=by omega
    rw[show(d.map (E cI)).getD i []=E cI d[i] by rw[A8,Cv,Ba hid];rfl] at qp;refine qp.mono (λb G=>.inr (.inr ⟨i,hi,G⟩)) λb G=>?_;obtain⟨_,n2,n3⟩:=I i b hi G;exact h7 b n2 (n3 (.b 0) Y) (n3 (.t 11 0) hw) λh=>Z (hq.dif i j b hi M G h)
  .have qb:i<(d.set j U).length:=by rw[aH] at hi;exact hi
   rw[aW qb];rfl
 have hk:∀n b,(⟨[(4,.sl 1 (E cC (d.set j U)))],[(.b 0,sB l z)]⟩:St).f.h n=some b->n=.b 0∧b=sB l z:=by
  intro n b G;simp only[St.f,aB] at G;split at G
  .rename_i h;exact⟨by first|exact h|exact h.symm,(Ay G).symm⟩
  .cases G
 refine⟨v,S2,rfl,H.nt,H.defers,λt=>?_,⟨λn b G=>?_,λn m b h1 h2 h3 h4=>?_,λb G=>?_,hpo.hok.env.mono (λ_ h=>.inl h) λ_ _=>rfl⟩,Bl H.size hpo.size,λb G hm=>?_,λn b h1 h2=>?_,λb G=>.inl (hpo.sub b (H.S0 b G)),λb G=>?_,⟨hpo.out.1.trans H.out.1,hpo.out.2.trans H.out.2⟩,λi b G=>?_⟩
 .by_cases ht:t=4
  .subst ht;rw[show(⟨[(4,.sl 1 (E cC (d.set j U)))],[(.b 0,sB l z)]⟩:St).f.s 4=.sl 1 (E cC (d.set j U)) by simp[St.f,Vs.look],q5];exact .clo qd
  .rw[show(⟨[(4,.sl 1 (E cC (d.set j U)))],[(.b 0,sB l z)]⟩:St).f.s t=.junk by simp[St.f,Vs.look,ht,DN ht]];exact .junk _
 .obtain⟨rfl,rfl⟩:=hk n b G;refine(hpo.hok.blk (.b 0) (sB l z) rfl).mono (λ_ h=>.inl h) (λb G hs=>?_) (λ_ _=>rfl) (λ_ _=>rfl) hx.symm qf.symm λm hm=>by rw[aDc] at hm;cases hm
  rcases hs with h|h|⟨i,hi,h⟩
  .exact h
  .exact(hn b (hx ▸ G) h).elim
  .exact((I i b hi h).2.2 (.b 0) Y (hx ▸ G)).elim
 .obtain⟨b1,hf⟩:=AA.1 h1;obtain⟨b2,hg⟩:=AA.1 h2;rw[(hk n b1 hf).1,(hk m b2 hg).1]
 .rcases G with h|h|⟨i,hi,h⟩
  .exact hpo.hok.dom b h
  .exact AZ (H.hok.lt hw h) hpo.size
  .exact AZ (I i b hi h).2.1 hpo.size
 .rw[h7 b (AZ G H.size) (λh=>?_) (λh=>?_) λh=>?_]
  .exact H.old b G hm
  .rcases H.mine (.b 0) b Y h with h'|h'
   .omega
   .exact hm h'
  .have:=hy b h;omega
  .have:=(I j b M h).1;omega
 .obtain⟨b1,hf⟩:=AA.1 h1;obtain⟨rfl,_⟩:=hk n b1 hf;exact H.mine (.b 0) b Y h2
 .rcases G with h|h|⟨i,hi,h⟩
  .rcases hpo.new b h with h'|h'|h'
   .exact H.Snew b h'
   .exact .inr (.inl (Bl H.size h'))
   .rcases h6 b h' with h2|h2|h2
    .rcases H.mine (.b 0) b Y h2 with q|q
     .exact .inr (.inl q)
     .exact .inr (.inr q)
    .exact .inr (.inl (hy b h2))
    .exact .inr (.inl (I j b M h2).1)
  .exact .inr (.inl (hy b h))
  .exact .inr (.inl (I i b hi h).1)
 .obtain⟨hi,rfl⟩:=hk (.b i) b G;have qx:i=0:=by simpa using hi
  subst qx;obtain⟨e1,e2,b0,e3,e4⟩:=H.keep 0 (sB l y) h0;exact⟨e1,e2,b0,e3,Blk.same_trans e4 (by simp[sB,Blk.same])⟩
end
end Go.Proofs.YtklmdppgonhflaaGreatDoor
