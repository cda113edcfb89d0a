/- A deck in new memory, one card of which is spoilt. -/
import Derived.Test.YtmiiohemehacjaaGreatDoorXwBb
import Derived.Test.YtmiiohemehacjaaGreatDoorVuY
import Derived.Test.YtmiiohemehacjaaGreatDoorXwPd
set_option linter.all false
set_option maxHeartbeats 8000000
namespace Go.Proofs.YtmiiohemehacjaaGreatDoor
open Go.Vs
section
variable [Vs.Envs]
attribute [local irreducible] Vs.Fn nxV nxS pkV pkS ptN crd dW dtF lH hoF hoR
theorem fnQ [Vs.Envs] {Z:List (List (List Nat)×List Nat)}{f:FuncId}{fn:Func}{ac:aF}{nt:Nat}{rs:List ResultVar} (h:wQ Tryz.prog Z f fn ac) (H:fn.ntmps=nt) (K:fn.results.toList=rs) {hin:List Blk}{args:List AV}{r:AV}{u:List (Option Blk)} (B:List Vs.Name) (hout:List Blk)
 (L:∀C:Ctx,wpc Tryz.prog C (drQ Tryz.prog Z) ac (aAQ Tryz.prog rs B r hout) (λe σ=>match e with|.ret=>aAQ Tryz.prog rs B r hout σ|.exit _=>False) ⟨ini 0 args,xW 0 hin⟩) (J:u=hout.map some:=by rfl) (F:Nat.ble args.length nt=true:=by rfl) (G:nodupB B=true:=by rfl) (I:∀j,j<hin.length->B[j]? = some (.b j):=by first|(simp;done)|(intro j H;rcases j with _|_|_|j<;>first|rfl|(simp at H;done)|(simp at H;omega))):Vs.Fn Tryz.prog f hin args r u:=
 h.fn Tryz.mixed nt rs B hout H K J (Nat.le_of_ble_eq_true F) G I L
open Go.Vs.Q in
def CdV.mR:aF:=s [mn 6] [0,1,2]<|.seq (.naming 7 (.region [o 9 (.bslice 1 0 [.v (.slice none 0 0)] []),m 7 9] [0,1,2,7] []))<|.seq (s [m 10 0,m 11 2,ad 12 11 1,o 13 (.call (.func F.aD) [10,12] [0]),m 8 13] [0,1,7,8]<|.block 0 (.loop (.seq (s [m 14 8,o 15 (.bin .gtr 14 (k 0))] [0,1,7,8,15]<|.cond 15
 .skip (.exit 0))<|.seq (.block 1 (.naming 7 (.region [m 18 7,m 19 0,m 20 1,o 21 (.call (.func F.gM) [19,20] [0]),o 22 (.bslice 1 1 [.v (.slice none 0 0)] [(0,21)]),o 23 (.append 1 24 18 22),m 7 23] [0,1,7,8] [])))<|.region [m 16 8,o 17 (.bin .sub 16 (k 1)),m 8 17] [0,1,7,8] [])))<|s [m 24
 7,m 6 24] [6]<|.ret
theorem CdV.l02DrawDeck_k:CK 180 Tryz.f180 CdV.mR 25 [.tmp 6]:=ck Tryz.func180
attribute [go_sem] CdV.mR
theorem aCL (l:List Int) (x:Sr) (n:Vs.Name):(sB l x).has n=false:=by simp[sB,Blk.has,lJ,AV.has]
theorem aGU (l:List Int):∀r,r∈E cI l->nV r=true:=λr u=>by
 obtain⟨y,_,rfl⟩:=BG.1 u;rfl
theorem aDf (l:List Int) (x:Sr) (G:byt l) (n:Nat) (u:0<n) (H:n<=20) (I:x.p<=3000):Vs.Fn Tryz.prog F.gM [sB l x] [.ptr (.b 0) 0 0,.v (.int .i64 n)] (.agg (cC (hoF l n x []).1)) [some (sB l (hoF l n x []).2)]:=by
 have h:=aHK l x G n u H I;have e:n=(E cI (hoF l n x []).1).length:=by rw[aH,(wI l n x []).1];simp
 exact Vs.Fn.shutB (k:=1) (rows:=E cI (hoF l n x []).1) (by rw[←e];exact h) (aGU _) (aCL l _)
def ddF (l:List Int) (n:Nat):Nat->Sr->List (List Int)->List (List Int)×Sr
 |0,x,o=>(o,x)
 |k+1,x,o=>ddF l n k (hoF l n x []).2 (o++[(hoF l n x []).1])
theorem aDt (l:List Int) (n:Nat):∀(k:Nat) (x:Sr) (o:List (List Int)),(∀c,c∈o->c.length=n)->(ddF l n k x o).1.length=o.length+k∧(ddF l n k x o).2.p<=x.p+8*n*k∧∀c,c∈(ddF l n k x o).1->c.length=n
 |0,x,o,h=>⟨rfl,by simp[ddF],h⟩
 | k+1,x,o,h=>by
  have F:=(wI l n x []);simp only[Ab,BF] at F
  obtain ⟨G,I,H⟩:=aDt l n k (hoF l n x []).2 (o++[(hoF l n x []).1]) (λc u=>by
    rcases Be.1 u with u|u
    . exact h c u
    . rw[Ar.1 u];exact F.1)
  rw[ddF];refine⟨by rw[G,AC];simp only[A9];omega,?_,H⟩;rw[Nat.mul_succ];omega
attribute [local go_sem] Int.reduceBEq Int.reduceBNe aH Ai Ah Al Aq Ad Af Ac Ae Aa Ab Ao Ar Ay Az Bo Bq Vs.Name.t.injEq Ak AB aW aX bG AA AO AP in
theorem mR (l:List Int) (x:Sr) (Y:byt l) (n:Nat) (h0:0<n) (hn:n<=20) (m:Nat) (hm:m<=7) (hp:x.p<=1600):Vs.Fn Tryz.prog F.dK [sB l x] [.ptr (.b 0) 0 0,.v (.int .i64 n),.v (.int .i64 m)] (.loc (.b 1) 0 (ddF l n (pkV l x (m+1:Nat)).toNat (pkS l x (m+1:Nat)) []).1.length) [some (sB l (ddF l n (pkV l x (m+1:Nat)).toNat (pkS l x (m+1:Nat)) []).2),some (.arr 1 (E cC (ddF l n (pkV l x (m+1:Nat)).toNat (pkS l x (m+1:Nat)) []).1) false)]:=by
 have v:=bC Y x (n:=(m+1:Nat)) (by omega);have Z:IntKind.i64.wrap ((m:Int)+1)=((m+1:Nat):Int):=by rw[aM (by omega) (by omega)];omega
 have P0:=pick l x Y (m+1:Nat) (by omega);have p0:=aQ l x (m+1:Nat);obtain⟨k0,L⟩:∃k:Nat,pkV l x (m+1:Nat)=k:=⟨(pkV l x (m+1:Nat)).toNat,by omega⟩;rw[L] at P0 v;rw[L,Bw];generalize pkS l x (m+1:Nat)=x0 at *
 have hd:8*n*k0<=160*8:=by
  have:8*n*k0<=(8*20)*8:=Nat.mul_le_mul (by omega) (by omega);omega
 obtain⟨g1,g2,g3⟩:=aDt l n k0 x0 [] (λc J=>by cases J);simp only[Ab,BF] at g1;have hT:ddF l n k0 x0 []=ddF l n k0 x0 []:=rfl;generalize hR:ddF l n k0 x0 []=R at *
 have hb:ddF l n k0 x0 []=R:=hR;refine fn1 CdV.l02DrawDeck_k [.b 0,.t 7 0] [sB l R.2,.arr 1 (E cC R.1) false] λX=>?_;unfold CdV.mR
 repeat' first|simp -dsimp only[go_sem,cC,sB,Z]|apply Br.mk<;>intro h<;>try simp -dsimp only[h]|refine aA.bor (by first|exact P0) rfl ?_|refine aC ?_|refine aC9 ?_|fail
 refine aO.at dM (X:={I:Nat×Sr×List (List Int) // (I.2.1.p+8*n*I.1<=2900)∧(I.1+I.2.2.length=k0)∧ddF l n I.1 I.2.1 I.2.2=R}) (λI=>[(7,.loc (.t 7 0) 0 I.1.2.2.length),(8,.v (.int .i64 (I.1.1:Nat)))]) (λI=>[(.b 0,sB l I.1.2.1),(.t 7 0,.arr 1 (E cC I.1.2.2) false)]) (λI=>I.1.1) ⟨(k0,x0,[]),by dsimp only;omega,by dsimp only;simp only[Ab];omega,hR⟩ ?_ ?_
 .simp[Vs.LeL,Vs.look,aB,aP,aJ,Vs.hset,aK,Vs.E,sB]
 .rintro⟨⟨k,y,o⟩,M,V,O⟩;dsimp only at M V O;simp -dsimp only[go_sem,cC,sB];refine Br.mk (λJ=>?_) λJ=>?_
  .obtain⟨k,rfl⟩:∃j,k=j+1:=⟨k-1,by simp at J;omega⟩;have w:=aIi (k:=k) (by omega);rw[Nat.mul_succ] at M;have hf:=aDf l y Y n h0 hn (by omega);have hq:=(wI l n y []).2;rw[ddF] at O;generalize hoF l n y []=H at *
   have U:E cC o++[[.sl 1 (E cI H.1)]]=E cC (o++[H.1]):=by rw[aS];rfl
   repeat' first|simp -dsimp only[go_sem,w,U,cC,sB]|apply Br.mk<;>intro h<;>try simp -dsimp only[h]|refine aA.bor (by first|exact hf) rfl ?_|refine aC ?_|refine aC9 ?_|fail
   all_goals first|omega|(refine⟨⟨(k,H.2,o++[H.1]),by dsimp only;omega,by dsimp only;rw[AC];simp only[Aa,Ab];omega,O⟩,?_,by simp only;omega⟩;simp[Vs.LeL,Vs.look,aB,aP,aJ,Vs.hset,aK,Vs.E,sB,cC];done)
  .obtain rfl:k=0:=by simp at J;omega
   rw[ddF] at O;subst O;dsimp only at *
   have ha:o.length=k0:=by omega
   simp -dsimp only[go_sem,cC,sB]
   first|exact⟨⟨_,_,rfl,rfl⟩,λh=>h rfl⟩|exact⟨_,_,rfl,rfl⟩
end
section
variable [Vs.Envs]
attribute [local irreducible] Vs.Fn nxV nxS pkV pkS ptN crd dW dtF lH hoF hoR
structure aMu (w w':World) (S':Nat->Prop) (d:List (List Int)) (v:Value) (ss:List Value) (xs:Nat->Option Nat) (cs:Nat->Nat) (x0:Option Nat) (c0:Nat):Prop where
 root:Own S' w' x0 c0 1 (ss.map λs=>[AV.v s]) v
 rows:aCi S' w' 1 (d.map (E cI)) ss xs cs
 new0:∀b,x0=some b->w.heap.size<=b∧b<w'.heap.size∧∀j,j<ss.length->xs j≠some b
 new:∀j b,j<ss.length->xs j=some b->w.heap.size<=b∧b<w'.heap.size
attribute [local go_sem] Int.reduceBEq Int.reduceBNe cC aH Ai Ah Al Aq Ad Af Ac Ae Aa Ab Ao Ar Ay Az Bo Bq Vs.Name.t.injEq Ak AB aW aX bG AA AO AP A7 Bi in
theorem aCd (l:List Int) (x:Sr) (hl:byt l) (n:Nat) (h0:0<n) (hn:n<=20) (m:Nat) (hm:m<=7) (hp:x.p<=1600) {S:Nat->Prop}{w:World}{ha:Vs.Name->Option Nat}{hy:Vs.Name->Nat}{vs:Array Value} (qh:HOK S w ha hy (Hn ([sB l x].map some))) (qy:vs.size=3)
  (h5:∀j,j<3->RV S w ha hy (Hn ([sB l x].map some)) (([.ptr (.b 0) 0 0,.v (.int .i64 n),.v (.int .i64 m)]:List AV).getD j .junk) (vs.getD j undef)) :
  Calls Tryz.prog F.dK vs w λe w'=>∃v S' ρ' κ',e=.returned v∧Post S w ha hy [sB l x] S' w' ρ' κ' [some (sB l (ddF l n (pkV l x (m+1:Nat)).toNat (pkS l x (m+1:Nat)) []).2)]∧
   ∃L xs cs x0 c0,aMu w w' S' (ddF l n (pkV l x (m+1:Nat)).toNat (pkS l x (m+1:Nat)) []).1 v L xs cs x0 c0:=by
 have v:=bC hl x (n:=(m+1:Nat)) (by omega);have M:IntKind.i64.wrap ((m:Int)+1)=((m+1:Nat):Int):=by rw[aM (by omega) (by omega)];omega
 have P0:=pick l x hl (m+1:Nat) (by omega);have p0:=aQ l x (m+1:Nat);obtain⟨k0,qf⟩:∃k:Nat,pkV l x (m+1:Nat)=k:=⟨(pkV l x (m+1:Nat)).toNat,by omega⟩;rw[qf] at P0 v;rw[qf,Bw];generalize pkS l x (m+1:Nat)=x1 at *
 have q2:8*n*k0<=160*8:=by
  have:8*n*k0<=(8*20)*8:=Nat.mul_le_mul (by omega) (by omega);omega
 generalize hR:ddF l n k0 x1 []=R;obtain⟨h1,h2,_⟩:=Cd.s_l02DrawDeck_k.o;obtain⟨q1,u,hc⟩:=Ca.1 h2;have hz:(Tryz.f180.body.map (zB Tryz.f180.ntmps (fK Tryz.prog)))=some true:=by kernel_rfl
 rw[u] at hz;have hd:=qA Tryz.mixed;refine aEo (dr:=fK Tryz.prog) (ac:=Cd.dK) (hin:=[sB l x]) (args:=[.ptr (.b 0) 0 0,.v (.int .i64 n),.v (.int .i64 m)]) h1 u hc (by simpa using hz) (by rw[Cd.s_l02DrawDeck_k.n];exact Cq rfl) qh qy h5 λa J=>?_;generalize Z:(⟨Tryz.f180.ntmps,w,S,sO ha [sB l x],λj=>ha (.b j),λj=>hy (.b j),λj=>[sB l x][j]?⟩:Ctx)=C0 at J;have hv:C0.nt=Tryz.f180.ntmps:=by rw[←Z]
 have h4:C0.w0=w:=by rw[←Z]
 unfold Cd.dK;refine At.step ⟨[(0,.ptr (.b 0) 0 0),(1,.v (.int .i64 n)),(2,.v (.int .i64 m))],[(.b 0,sB l x)]⟩ hd J hv ?_ λa w1 S1 ρ1 κ1 J=>?_
 .simp -dsimp only[go_sem,M,sB]
  try simp[Vs.LeL,Vs.look,aB]
 refine At.step ⟨[(7,.loc (.t 9 0) 0 0),(0,.ptr (.b 0) 0 0),(1,.v (.int .i64 n)),(2,.v (.int .i64 m))],[(.t 9 0,.arr 1 [] false),(.b 0,sB l x)]⟩ hd J hv ?_ λa w2 S2 ρ2 κ2 J=>?_
 .simp -dsimp only[go_sem,M,sB]
  try simp[Vs.LeL,Vs.look,aB,sB]
 refine At.seq (At.step ⟨[(0,.ptr (.b 0) 0 0),(1,.v (.int .i64 n)),(7,.loc (.t 9 0) 0 0),(8,.v (.int .i64 (k0:Int)))],[(.t 9 0,.arr 1 [] false),(.b 0,sB l x1)]⟩ hd J hv ?_ λa w3 S3 ρ3 κ3 J=>?_)
 .simp -dsimp only[go_sem,M,sB];refine And.intro rfl ?_;refine aA.bor (by exact P0) rfl ?_;simp -dsimp only[go_sem,M,sB]
  try simp[Vs.LeL,Vs.look,aB,sB]
 refine At.block ?_;obtain⟨ρ3,κ3,J⟩:=J.oU (n:=.t 9 0) (m:=.t 7 0) (by decide) (by rfl)
 let T:Nat->List Value->Sr->St:=λi L y=>⟨[(0,.ptr (.b 0) 0 0),(1,.v (.int .i64 n)),(7,.loc (.t 7 0) 0 L.length),(8,.v (.int .i64 (i:Int)))],[(.t 7 0,.arr 1 (L.map (λs=>[AV.v s])) false),(.b 0,sB l y)]⟩
 let I:Nat->Act->World->Prop:=λi a w=>∃(L:List Value) (o:List (List Int)) (y:Sr) (D:Nat->Prop) (C:Ctx) (S:Nat->Prop) (ρ:Vs.Name->Option Nat) (κ:Vs.Name->Nat),ddF l n i y o=R∧L.length=o.length∧L.length+i=k0∧y.p+8*n*i<=2900∧C.nt=C0.nt∧Later C0 C∧OK C (T i L y).f a w S ρ κ∧(∀b,D b->C0.w0.heap.size<=b)∧Hid C D (.tup (o.map λr=>.sl 1 (E cI r))) (.tuple L.toArray)∧∃xs cs,aCi C.S0 C.w0 1 (o.map (E cI)) L xs cs∧∀j b,j<L.length->xs j=some b->D b
 refine At.loop I (λi a w hI=>?_) (n:=k0) ?_
 rotate_left
 .refine⟨[],[],x1,λ_=>False,C0.anew w3 S3 _ ρ3,S3,ρ3,κ3,hR,rfl,by simp,by omega,rfl,J.later,?_,λb u=>u.elim,⟨.tup _ _ rfl (by simp),λb u=>u.elim,λb u=>u.elim⟩,λ_=>none,λ_=>0,⟨rfl,by simp,by simp⟩,by simp⟩;exact J.anew.le (by simp[T,oU,Vs.LeL,Vs.look,aB,sB,Vs.rn,Vs.rnB,Vs.rnL,Vs.nmF])
 obtain⟨L,o,y,D,C,S,ρ,κ,he,qx,q3,q0,qe,h9,J,hD,hh,xs,cs,qn,V⟩:=hI;have Y:C.nt=Tryz.f180.ntmps:=qe.trans hv;refine At.seq (At.fw hd J Y (N:=fun σ'=>LeL σ' (T i L y)∧0<i) (E:=λe σ'=>match e with|.exit j=>j=0∧LeL σ' (T i L y)∧i=0|.ret=>False) ?_ (λa w hg=>?_) (λj a w hg=>?_) (λa w hg=>hg.no.elim))
 .simp only[T];simp -dsimp only[go_sem,M,sB];refine Br.mk (λhc=>?_) λhc=>?_
  .have qg:0<i:=by have:=Cu hc;omega
   try simp -dsimp only[go_sem,M,sB]
   exact⟨by simp[Vs.LeL,Vs.look,aB,sB],qg⟩
  .have qt:i=0:=by have:=CB hc;omega
   try simp -dsimp only[go_sem,M,sB]
   exact⟨by simp[Vs.LeL,Vs.look,aB,sB],qt⟩
 rotate_left
 .obtain⟨σ',S',ρ',κ',⟨rfl,qa,rfl⟩,ho⟩:=hg;have J:=ho.le qa;simp only[Exit.then,Exit.inBlock,Bt];refine At.step ⟨[(6,.loc (.t 7 0) 0 L.length)],[(.t 7 0,.arr 1 (L.map λs=>[AV.v s]) false),(.b 0,sB l y)]⟩ hd J Y ?_ λa w4 S4 ρ4 κ4 G=>?_
  .simp only[T]
   try simp -dsimp only[go_sem,M,sB]
   simp[Vs.LeL,Vs.look,aB,sB]
  refine At.ret ⟨.inl rfl,G.defers,?_⟩
  obtain ⟨x,v,hx,qz,qo⟩:=aCm G (fn:=Tryz.f180) (K:=λx=>x=.loc (.t 7 0) 0 L.length) (by
    show aCN Tryz.prog _ _ [_]
    simp[aCN,aIo,Vs.look,aCX])
  subst hx;rw[ddF] at he;subst he;have ht:=G.back h9
  have hs:=G.own (n:=.t 7 0) (rows:=L.map λs=>[AV.v s]) (by rfl) (λr hr=>by
      obtain⟨y,_,rfl⟩:=BG.1 hr;rfl) (by simpa using qz)
  have qv:=qn.mono (S':=S4) (w':=w4) (λj b O u=>(hh.same G).2.2.1 b (V j b O u)) λj b O u=>(hh.same G).1 b (V j b O u);refine⟨v,qo,v,S4,ρ4,κ4,rfl,?_,L,xs,cs,ρ4 (.t 7 0),κ4 (.t 7 0),hs,qv,λb u=>⟨?_,G.hok.lt (n:=.t 7 0) (by rfl) u,λj O hx=>(hh.same G).2.2.2 b (V j b O hx) (.t 7 0) (by rfl) u⟩,λj b O u=>⟨?_,(hh.same G).2.1 b (V j b O u)⟩⟩
  .rw[←Z] at ht;refine OK.post (hout:=[sB l y]) ht λn b u=>?_;obtain⟨rfl,rfl⟩:=aDH u;exact⟨rfl,aCL l y⟩
  .have qb:=ht.mine (.t 7 0) b (by rfl) u
   have hf:C0.Mut b->False:=λhm=>by
    rw[←Z] at hm;obtain⟨j,O,h8⟩:=hm;have h7:j=0:=by simpa using O
    subst h7;have hk:=ht.keep 0 (sB l y) rfl
    have e1:ρ4 (.b 0)=ha (.b 0):=by
     have:=hk.1;rw[←Z] at this;exact this
    have:=G.hok.inj (.t 7 0) (.b 0) b (by rfl) (by rfl) u (e1.trans h8);cases this
   rcases qb with h|h
   .exact h4 ▸ h
   .exact(hf h).elim
  .exact h4 ▸ hD b (V j b O u)
 obtain⟨σ',S',ρ',κ',⟨qa,qg⟩,ho⟩:=hg;have J:=ho.le qa;obtain⟨i,rfl⟩:∃j,i=j+1:=⟨i-1,by omega⟩;have hw:=aIi (k:=i) (by omega);rw[Nat.mul_succ] at q0;have LD:=aHK l y hl n h0 hn (by omega);have hq:=(wI l n y []).2;have h6:=(wI l n y []).1;simp only[Ab,BF] at h6;rw[ddF] at he;generalize hoF l n y []=H at *
 obtain⟨c,y2⟩:=H;dsimp only at hq h6 he LD;show At Tryz.prog _ _ (.seq _ _) _ a w
 refine At.seq (At.block (At.halt (pre:=[⟨some 18,.mv (.tmp 7),none⟩,⟨some 19,.mv (.tmp 0),none⟩,⟨some 20,.mv (.tmp 1),none⟩,⟨some 21,.call (.func F.gM) [(.tmp 19),(.tmp 20)] [0],none⟩]) (post:=[⟨some 22,.bslice 1 1 [.v (.slice none 0 0)] [(0,(.tmp 21))],none⟩,⟨some 23,.append 1 24 (.tmp 18) (.tmp 22),none⟩,⟨some 7,.mv (.tmp 23),none⟩]) J Y ?_));simp only[T];simp -dsimp only[go_sem,M,sB];refine And.intro rfl ?_;refine aA.bor (by exact LD) rfl ?_;simp -dsimp only[go_sem,M,sB];intro a w S2 ρ2 κ2 qi;have qw:(E cI c).length=n:=by rw[aH,h6]
 let σA:St:=⟨[(21,.agg [.loc (.t 21 1) 0 (E cI c).length]),(18,.loc (.t 7 0) 0 L.length),(0,.ptr (.b 0) 0 0),(1,.v (.int .i64 n)),(7,.loc (.t 7 0) 0 L.length),(8,.v (.int .i64 ((i+1:Nat):Int)))],[(.t 21 1,.arr 1 (E cI c) false),(.t 7 0,.arr 1 (L.map (λs=>[AV.v s])) false),(.b 0,sB l y2)]⟩
 have U:OK C σA.f a w S2 ρ2 κ2:=qi.le (by simp[σA,Vs.LeL,Vs.look,aB,qw,sB]);obtain⟨s,C',hu,qj,qu,⟨sb,sn,sc,rfl⟩,qr,qq,hs⟩:=U.bury (n:=.t 21 1) (k:=1) (rows:=E cI c) (t:=21) rfl (aGU c) rfl hh;have qd:=U.back h9;have h3:=(qn.mono (S':=S2) (w':=w) (λj b O u=>(hh.same U).2.2.1 b (V j b O u)) λj b O u=>(hh.same U).1 b (V j b O u)).snoc hs (λj b O u=>(hh.same U).2.2.2 b (V j b O u) (.t 21 1) (by rfl));have e3:o.map (E cI)++[E cI c]=(o++[c]).map (E cI):=by rw[Cm];rfl
 rw[e3,←qr,←qq] at h3
 have qs:∀b,(D b∨ρ2 (.t 21 1)=some b)->C0.w0.heap.size<=b:=λb u=>by
  rcases u with u|u
  .exact hD b u
  .have hf:C0.Mut b->False:=λhm=>by
    rw[←Z] at hm;obtain⟨j,O,h8⟩:=hm;have h7:j=0:=by simpa using O
    subst h7;have hk:=qd.keep 0 (sB l y2) rfl
    have e1:ρ2 (.b 0)=ha (.b 0):=by
     have:=hk.1;rw[←Z] at this;exact this
    have:=U.hok.inj (.t 21 1) (.b 0) b (by rfl) (by rfl) u (e1.trans h8);cases this
   rcases qd.mine (.t 21 1) b (by rfl) u with h|h
   .exact h
   .exact(hf h).elim
 let σB:St:=⟨[(21,.agg [.v (.slice sb sn sc)]),(18,.loc (.t 7 0) 0 L.length),(0,.ptr (.b 0) 0 0),(1,.v (.int .i64 n)),(7,.loc (.t 7 0) 0 L.length),(8,.v (.int .i64 ((i+1:Nat):Int)))],[(.t 7 0,.arr 1 (L.map (λs=>[AV.v s])) false),(.b 0,sB l y2)]⟩
 have qm:OK C' σB.f a w S2 ρ2 κ2:=qj.le (by simp[σA,σB,iK,Vs.LeL,Vs.look,aB,Vs.scr,aBl,Vs.AV.has,lJ,Vs.Blk.has,sB]);have qc:(L.map λs=>[AV.v s])++[[AV.v (.slice sb sn sc)]]=(L++[Value.slice sb sn sc]).map λs=>[AV.v s]:=by simp
 have qp:(L.map λs=>[AV.v s]).length=L.length:=by simp
 let τ:St:=⟨[(0,.ptr (.b 0) 0 0),(1,.v (.int .i64 n)),(7,.loc (.t 23 0) 0 (L.length+1)),(8,.v (.int .i64 ((i+1:Nat):Int)))],[(.t 23 0,.arr 1 ((L++[Value.slice sb sn sc]).map (λs=>[AV.v s])) false),(.b 0,sB l y2)]⟩
 refine⟨C',σB,S2,ρ2,κ2,fun σ'=>LeL σ' τ,hu.nt.trans Y,qm,?_,λa w hg=>?_⟩
 .simp only[σB,τ];simp -dsimp only[go_sem,qc,qp,hw,sB]
  and_intros
  all_goals first|omega|(simp[Vs.LeL,Vs.look,aB,sB];done)|(simp[Vs.LeL,Vs.look,aB,sB];omega)
 obtain⟨S4,ρ4,κ4,G⟩:=hg.le;obtain⟨ρ5,κ5,qk⟩:=G.oU (n:=.t 23 0) (m:=.t 7 0) (by decide) (by rfl);show At Tryz.prog _ _ (.region _ _ _) _ a w
 refine At.fw hd qk (hu.nt.trans Y) (N:=fun σ'=>LeL σ' (T i (L++[Value.slice sb sn sc]) y2)) (E:=λ_ _=>False) ?_ (λa w hg=>?_) (λj a w hg=>hg.no.elim) (λa w hg=>hg.no.elim)
 .simp only[τ,T,oU];simp -dsimp only[go_sem,qc,qp,hw,sB]
  first|(simp[Vs.LeL,Vs.look,aB,hw,sB];done)
 obtain⟨S6,ρ6,κ6,ql⟩:=hg.le;refine⟨i,by omega,L++[Value.slice sb sn sc],o++[c],y2,_,C',S6,ρ6,κ6,he,by simp[qx],by simp;omega,by omega,hu.nt.trans qe,h9.trans hu,ql,qs,?_,_,_,h3,?_⟩
 .rw[Cm];exact qu
 .intro j b O u;simp only[AC,A9] at O;split at u
  .exact .inr u
  .exact .inl (V j b (by omega) u)
end
section
variable [Vs.Envs]
attribute [local irreducible] Vs.Fn nxV nxS pkV pkS ptN crd dW dtF lH hoF hoR mid
open Go.Vs.Q in
def CdV.pR:aF:=s [m 4 0,o 5 (.call (.func F.aD) [4,(k 3)] [0])] [0,1,5]<|.block 0 (s [en 7 5 0,m 6 7] [0,1,5,6]<|.cond 6 (.region [m 8 1,o 9 (.bslice 1 0 [.v (.int .i64 (0))] []),nc 10 8,fa 11 0 10,⟨none,.store 1 11 9,none⟩] [] []) (s [en 13 5 1,m 12 13] [0,1,5,12]<|.cond 12 (.region [m 14 1,m 15
 0,o 16 (.call (.func F.aD) [15,(k 2)] [0]),o 17 (.bin .add (k 20) 16),o 18 (.mk 1 8 [.v (.int .i64 (0))] 17),nc 19 14,fa 20 0 19,⟨none,.store 1 20 18,none⟩] [] []) (s [en 22 5 2,m 21 22] [0,1,21]<|.cond 21 (s [m 23 1,nc 24 23,fa 25 0 24,lf 26 1 25,ln 27 26,o 28 (.bin .gtr 27 (k 0))]
 [0,1,28]<|.cond 28 (.region [m 29 1,nc 30 29,fa 31 0 30,lf 32 1 31,m 33 0,m 34 1,nc 35 34,fa 36 0 35,lf 37 1 36,ln 38 37,o 39 (.call (.func F.aD) [33,38] [0]),m 40 0,o 41 (.bslice 1 5 [.v (.int .i64 (0))] [(0,(k (-1))),(1,(k 0)),(2,(k 4095)),(3,(k 4096)),(4,(k
 (-9223372036854775808)))]),o 42 (.call (.func F.bA) [40,41] [0]),ix 43 1 32 39,⟨none,.store 1 43 42,none⟩] [] [3000000]) .skip) .skip)))
theorem CdV.l02Spoil_rs:Tryz.f182.results.toList=[]:=rfl
theorem CdV.l02Spoil_nt:Tryz.f182.ntmps=44:=rfl
theorem CdV.l02Spoil_ok:wQ Tryz.prog [([[],[0],[1],[2],[],[],[5],[6],[7],[8],[4,9],[],[],[11,12,10],[3,10,13],[14]],[0,1,2,4,5,6,7,11])] 182 Tryz.f182 CdV.pR:=⟨Tryz.func182,by kernel_rfl,by decide +kernel⟩
attribute [local go_sem] Int.reduceBEq Int.reduceBNe cC aH Ai Ah Al Aq Ad Af Ac Ae Aa Ab Ao Ar Ay Az Bo Bq Vs.Name.t.injEq Ak AB aW aX bG AA AO AP A7 Bi Vs.Name.b.injEq Nat.zero_ne_one Nat.one_ne_zero aEM aLw aLy aJU aLx aMX aLv Cg in
theorem pR (l:List Int) (y:Sr) (hl:byt l) (c:List Int) (hc:c.length<=20) (hp:y.p<=3000):∃(xx:AV) (c':List Int) (z:Sr),(xx=.loc (.b 2) 0 c.length∨∃c2:List Int,xx=.sl 1 (E cI c2)∧c2.length<=100)∧c'.length=c.length∧z.p<=y.p+8∧
  ∀O U:List Value,O.length+U.length<=100->Vs.Fn Tryz.prog F.rJ [sB l y,.var (mid O (.loc (.b 2) 0 c.length) U) false,.arr 1 (E cI c) false] [.ptr (.b 0) 0 0,.ptr (.b 1) 0 O.length] (.tup []) [some (sB l z),some (.var (mid O xx U) false),some (.arr 1 (E cI c') false)]:=by
 have P1:=pick l y hl 3 (by omega);have v1:=bC hl y (n:=3) (by omega);have q1:=aQ l y 3;generalize pkV l y 3=r1 at *
 generalize pkS l y 3=y1 at *
 have u:(E cI c).length=c.length:=aH _;by_cases h0:r1=0
 .have G:(r1==0)=true:=Bj.2 h0;refine⟨.sl 1 [],c,y1,.inr ⟨[],rfl,by simp⟩,rfl,by omega,λO U Z=>?_⟩;refine fnQ CdV.l02Spoil_ok CdV.l02Spoil_nt CdV.l02Spoil_rs [.b 0,.b 1,.b 2] [sB l y1,.var (mid O (.sl 1 []) U) false,.arr 1 (E cI c) false] λX=>?_;unfold CdV.pR;simp -dsimp only[go_sem,G,u,sB]
  repeat' (first
    |(refine RgK.mk rfl ?_;simp -dsimp only[go_sem,G,u,sB])
    |(refine RgK.ord Tryz.mixed [[],[0],[1],[2],[],[],[5],[6],[7],[8],[4,9],[],[],[11,12,10],[3,10,13],[14]] [0,1,2,4,5,6,7,11] rfl rfl (by decide) (T0:=[3,8,9,10,12,13,14,15]) rfl (n:=8) rfl rfl ?_;simp -dsimp only[go_sem,vcF,pv,vcO,AU,Bh,Option.isSome_some,G,u,sB])
    |(refine OrK.yes rfl ?_ ?_<;>try simp -dsimp only[go_sem,vcO,G,u,sB])
    |refine OrK.no rfl ?_
    |exact OrK.nil
    |(refine Br.mk (λh=>?_) (λh=>?_)<;>simp -dsimp only[go_sem,h,G,u,sB])
    |(refine aA.bor (by first|exact P1) rfl ?_;simp -dsimp only[go_sem,G,u,sB])
    |((first|refine aC ?_|refine aC9 ?_);try simp -dsimp only[go_sem,G,u,sB])
    |fail)
  all_goals first|omega|exact⟨_,_,rfl,rfl⟩
 have G:(r1==0)=false:=Ap.2 h0;by_cases h1:r1=1
 .have H:(r1==1)=true:=Bj.2 h1;have P2:=pick l y1 hl 2 (by omega);have v2:=bC hl y1 (n:=2) (by omega);have q2:=aQ l y1 2;generalize pkS l y1 2=y2 at *
  obtain⟨m,hm⟩:∃m:Nat,pkV l y1 2=m:=⟨(pkV l y1 2).toNat,by omega⟩;rw[hm] at P2 v2;have M:IntKind.i64.wrap (20+(m:Int))=((20+m:Nat):Int):=by rw[aM (by omega) (by omega)];omega
  have L:(List.replicate (20+m) [AV.v (.int .i64 0)]).take (20+m)=E cI (List.replicate (20+m) 0):=by
   rw[Ag (by simp)];simp[E,cI]
  refine⟨.sl 1 (E cI (List.replicate (20+m) 0)),c,y2,.inr ⟨_,rfl,by simp;omega⟩,rfl,by omega,λO U Z=>?_⟩;refine fnQ CdV.l02Spoil_ok CdV.l02Spoil_nt CdV.l02Spoil_rs [.b 0,.b 1,.b 2] [sB l y2,.var (mid O (.sl 1 (E cI (List.replicate (20+m) 0))) U) false,.arr 1 (E cI c) false] λX=>?_;unfold CdV.pR;simp -dsimp only[go_sem,G,H,u,M,L,sB]
  repeat' (first
    |(refine RgK.mk rfl ?_;simp -dsimp only[go_sem,G,H,u,M,L,sB])
    |(refine RgK.ord Tryz.mixed [[],[0],[1],[2],[],[],[5],[6],[7],[8],[4,9],[],[],[11,12,10],[3,10,13],[14]] [0,1,2,4,5,6,7,11] rfl rfl (by decide) (T0:=[3,8,9,10,12,13,14,15]) rfl (n:=8) rfl rfl ?_;simp -dsimp only[go_sem,vcF,pv,vcO,AU,Bh,Option.isSome_some,G,H,u,M,L,sB])
    |(refine OrK.yes rfl ?_ ?_<;>try simp -dsimp only[go_sem,vcO,G,H,u,M,L,sB])
    |refine OrK.no rfl ?_
    |exact OrK.nil
    |(refine Br.mk (λh=>?_) (λh=>?_)<;>simp -dsimp only[go_sem,h,G,H,u,M,L,sB])
    |(refine aA.bor (by first|exact P1|exact P2) rfl ?_;simp -dsimp only[go_sem,G,H,u,M,L,sB])
    |((first|refine aC ?_|refine aC9 ?_);try simp -dsimp only[go_sem,G,H,u,M,L,sB])
    |fail)
  all_goals first|omega|exact⟨_,_,rfl,rfl⟩
 have H:(r1==1)=false:=Ap.2 h1;have J:(r1==2)=true:=Bj.2 (by omega);by_cases ha:c.length=0
 .have I:decide ((c.length:Int)>0)=false:=AX (by omega);refine⟨.loc (.b 2) 0 c.length,c,y1,.inl rfl,rfl,by omega,λO U Z=>?_⟩;refine fnQ CdV.l02Spoil_ok CdV.l02Spoil_nt CdV.l02Spoil_rs [.b 0,.b 1,.b 2] [sB l y1,.var (mid O (.loc (.b 2) 0 c.length) U) false,.arr 1 (E cI c) false] λX=>?_;unfold CdV.pR;simp -dsimp only[go_sem,G,H,J,I,u,sB]
  repeat' (first
    |(refine RgK.mk rfl ?_;simp -dsimp only[go_sem,G,H,J,I,u,sB])
    |(refine RgK.ord Tryz.mixed [[],[0],[1],[2],[],[],[5],[6],[7],[8],[4,9],[],[],[11,12,10],[3,10,13],[14]] [0,1,2,4,5,6,7,11] rfl rfl (by decide) (T0:=[3,8,9,10,12,13,14,15]) rfl (n:=8) rfl rfl ?_;simp -dsimp only[go_sem,vcF,pv,vcO,AU,Bh,Option.isSome_some,G,H,J,I,u,sB])
    |(refine OrK.yes rfl ?_ ?_<;>try simp -dsimp only[go_sem,vcO,G,H,J,I,u,sB])
    |refine OrK.no rfl ?_
    |exact OrK.nil
    |(refine Br.mk (λh=>?_) (λh=>?_)<;>simp -dsimp only[go_sem,h,G,H,J,I,u,sB])
    |(refine aA.bor (by first|exact P1) rfl ?_;simp -dsimp only[go_sem,G,H,J,I,u,sB])
    |((first|refine aC ?_|refine aC9 ?_);try simp -dsimp only[go_sem,G,H,J,I,u,sB])
    |fail)
  all_goals first|omega|exact⟨_,_,rfl,rfl⟩
 have I:decide ((c.length:Int)>0)=true:=AR (by omega);have P2:=pick l y1 hl (c.length:Nat) (by omega);have v2:=bC hl y1 (n:=(c.length:Nat)) (by omega);have q2:=aQ l y1 (c.length:Nat);generalize pkS l y1 (c.length:Nat)=y2 at *
 obtain⟨i,hi⟩:∃i:Nat,pkV l y1 (c.length:Nat)=i:=⟨(pkV l y1 (c.length:Nat)).toNat,by omega⟩;rw[hi] at P2 v2;have AM:=among l y2 hl [-1,0,4095,4096,-9223372036854775808] (by omega) (by simp) (by simp);rw[show E cI [-1,0,4095,4096,-9223372036854775808]=[[.v (.int .i64 (-1))],[.v (.int .i64 0)],[.v (.int .i64 4095)],[.v (.int .i64 4096)],[.v (.int .i64 (-9223372036854775808))]] from rfl] at AM;have q3:=aQ l y2 ((([-1,0,4095,4096,-9223372036854775808]:List Int).length:Nat):Int);generalize pkS l y2 ((([-1,0,4095,4096,-9223372036854775808]:List Int).length:Nat):Int)=y3 at *
 generalize([-1,0,4095,4096,-9223372036854775808]:List Int).getD _ 0=v3 at AM
 have V:(E cI c).getD i []=[.v (.int .i64 (c.getD i 0))]:=by
  rw[aR (show i<c.length by omega)];simp[cI,List.getD,show i<c.length by omega]
 have Y:(E cI c).set i [.v (.int .i64 v3)]=E cI (c.set i v3):=by simp[E,cI,Db]
 have hb:(i:Int)<c.length:=by omega
 refine⟨.loc (.b 2) 0 c.length,c.set i v3,y3,.inl rfl,by simp,by omega,λO U Z=>?_⟩;refine fnQ CdV.l02Spoil_ok CdV.l02Spoil_nt CdV.l02Spoil_rs [.b 0,.b 1,.b 2] [sB l y3,.var (mid O (.loc (.b 2) 0 c.length) U) false,.arr 1 (E cI (c.set i v3)) false] λX=>?_;unfold CdV.pR;simp -dsimp only[go_sem,G,H,J,I,u,V,Y,sB]
 repeat' (first
   |(refine RgK.mk rfl ?_;simp -dsimp only[go_sem,G,H,J,I,u,V,Y,sB])
   |(refine RgK.ord Tryz.mixed [[],[0],[1],[2],[],[],[5],[6],[7],[8],[4,9],[],[],[11,12,10],[3,10,13],[14]] [0,1,2,4,5,6,7,11] rfl rfl (by decide) (T0:=[3,8,9,10,12,13,14,15]) rfl (n:=8) rfl rfl ?_;simp -dsimp only[go_sem,vcF,pv,vcO,AU,Bh,Option.isSome_some,G,H,J,I,u,V,Y,sB])
   |(refine OrK.yes rfl ?_ ?_<;>try simp -dsimp only[go_sem,vcO,G,H,J,I,u,V,Y,sB])
   |refine OrK.no rfl ?_
   |exact OrK.nil
   |(refine Br.mk (λh=>?_) (λh=>?_)<;>simp -dsimp only[go_sem,h,G,H,J,I,u,V,Y,sB])
   |(refine aA.bor (by first|exact P1|exact P2) rfl ?_;simp -dsimp only[go_sem,G,H,J,I,u,V,Y,sB])
   |(refine aA.borM (by first|exact AM) rfl ?_;simp -dsimp only[go_sem,G,H,J,I,u,V,Y,sB])
   |((first|refine aC ?_|refine aC9 ?_);try simp -dsimp only[go_sem,G,H,J,I,u,V,Y,sB])
   |fail)
 all_goals first|omega|exact⟨_,_,rfl,rfl⟩
end
section
variable [Vs.Envs]
attribute [local irreducible] Vs.Fn nxV nxS pkV pkS ptN crd dW dtF lH hoF hoR
theorem aJV {A B:List Value}{x:AV}{j:Nat} (F:j<(mid A x B).length) (H:j≠A.length) (s:Value):(mid A x B).getD j .junk=.v ((A++s::B).getD j undef):=by
 unfold mid at F⊢;rw[Bc,Bc];rcases Cw j A.length with h|h
 .rw[BB (by simpa using h),BB h,BQ];rw[Bf h];rfl
 .rw[Bv (by simpa using h),Bv h,BC];obtain⟨k,G⟩:∃k,j-A.length=k+1:=⟨j-A.length-1,by omega⟩;rw[G,Bi,Bi,BQ];have u:k<B.length:=by simp at F;omega
  rw[Bf u];rfl
theorem aJh (l:List Int) (y:Sr) (hl:byt l) (d:List (List Int)) (hd:∀c,c∈d->c.length<=20) (q9:d.length<=8) (j:Nat) (hj:j<d.length) (hp:y.p<=3000):∃(d':List (List Int)) (z:Sr),d'.length=d.length∧(∀c,c∈d'->c.length<=100)∧z.p<=y.p+8∧
  ∀ {C:Ctx}{σ:St}{a:Act}{w:World}{S:Nat->Prop}{ρ:Vs.Name->Option Nat}{κ:Vs.Name->Nat}{J:List Value}{xs:Nat->Option Nat}{cs:Nat->Nat}{u0 u1:Value} (H:OK C σ.f a w S ρ κ) (h0:σ.f.h (.b 0)=some (sB l y)) (hR:σ.f.h (.t 11 0)=some (.arr 1 (J.map λs=>[AV.v s]) false))
   (hq:aCi S w 1 (d.map (E cI)) J xs cs) (I:∀i b,i<J.length->xs i=some b->C.w0.heap.size<=b∧b<w.heap.size∧∀m,(σ.f.h m).isSome->ρ m≠some b) (hy:∀b,ρ (.t 11 0)=some b->C.w0.heap.size<=b) (h4:RV S w ρ κ σ.f.h (.loc (.t 11 0) 0 J.length) (a.tmps.getD 4 undef))
   (qr:RV S w ρ κ σ.f.h (.ptr (.b 0) 0 0) u0) (qs:RV S w ρ κ σ.f.h (.ptr (.t 11 0) j 0) u1),
   Calls Tryz.prog F.rJ #[u0,u1] w λe w'=>∃u S',e=.returned u∧OK C (⟨[(4,.sl 1 (E cC d'))],[(.b 0,sB l z)]⟩:St).f a w' S' ρ κ:=by
 have qu:(d.getD j []).length<=20:=by
  rw[Bc,Bf hj];exact hd _ (Am hj)
 obtain⟨xx,c',z,q7,qt,hz,SP⟩:=pR l y hl (d.getD j []) qu hp
 obtain ⟨O,qk,ql⟩:∃O:List Int,O.length<=100∧((xx=.loc (.b 2) 0 (d.getD j []).length∧O=c')∨xx=.sl 1 (E cI O)):=by
  rcases q7 with h|⟨c2,h,h2⟩
  .exact⟨c',by omega,.inl ⟨h,rfl⟩⟩
  .exact⟨c2,h2,.inr h⟩
 refine⟨d.set j O,z,by simp,λc hc=>?_,hz,?_⟩
 .rcases CJ hc with h|h
  .exact BJ (hd c h) (by omega)
  .rw[h];exact qk
 intro C σ a w S ρ κ J xs cs u0 u1 H h0 hR hq I hy h4 qr qs;have qn:J.length=d.length:=by rw[←hq.len];simp
 have L:j<J.length:=by omega
 generalize q5:a.tmps.getD 4 undef=v0 at h4;obtain⟨A1,s,A2,Z,U⟩:∃A1 s A2,J=A1++s::A2∧A1.length=j:=⟨J.take j,J[j],J.drop (j+1),by rw[←Bn L,Cj],by simp;omega⟩;have qq:J.getD j undef=s:=by rw[Z,←U];simp
 have qv:(d.map (E cI)).getD j []=E cI (d.getD j []):=by
  rw[Bc,Bc,BQ,Bf hj];rfl
 have hv:=hq.row j L;rw[qv,qq] at hv;have qw:(E cI (d.getD j [])).length=(d.getD j []).length:=aH _
 have SP := SP A1 A2 (by have:J.length=A1.length+(A2.length+1):=by rw[Z];simp
                         omega)
 let ρ0:Vs.Name->Option Nat:=λm=>match m with|.b 0=>ρ (.b 0)|.b 1=>ρ (.t 11 0)|.b 2=>xs j|_=>none
 let κ0:Vs.Name->Nat:=λm=>match m with|.b 0=>κ (.b 0)|.b 1=>κ (.t 11 0)|.b 2=>cs j|_=>0
 let hin:List Blk:=[sB l y,.var (mid A1 (.loc (.b 2) 0 (d.getD j []).length) A2) false,.arr 1 (E cI (d.getD j [])) false]
 have hw:(σ.f.h (.t 11 0)).isSome:=by rw[hR];rfl
 have V:(σ.f.h (.b 0)).isSome:=by rw[h0];rfl
 have hn:∀b,ρ (.b 0)=some b->ρ (.t 11 0)=some b->False:=λb h1 h2=>by
  have:=H.hok.inj (.b 0) (.t 11 0) b V hw h1 h2;cases this
 obtain⟨ja,qj⟩:=H.hok.blk (.t 11 0) _ hR
 obtain ⟨x,cells,T,fr,g1,g2,g3,g4,g5,g6,g7,g8⟩:∃x cells T fr,ρ (.t 11 0)=some x∧w.heap[x]? = some (.cells cells T fr)∧aG9 fr cells.size∧(false=false->¬S x)∧(false=true->S x)∧cells.size=κ (.t 11 0)∧(J.map λs=>[AV.v s]).length*1<=cells.size∧
   ∀i jj,i<(J.map λs=>[AV.v s]).length->jj<1->(cells.getD (i*1+jj) undef).oneCell'=true∧RC S w (((J.map λs=>[AV.v s]).getD i []).getD jj .junk) (cells.getD (i*1+jj) undef):=by
  rcases qj with⟨_,h⟩|h
  .exfalso;have:J=[]:=by simpa using h
   rw[this] at L;simp at L
  .exact h
 rw[BC,Nat.mul_one] at g7
 have qa:∀i,i<J.length->(cells.getD i undef).oneCell'=true∧cells.getD i undef=J.getD i undef:=λi hi=>by
  have:=g8 i 0 (by simpa using hi) (by omega);rw[Nat.mul_one,Cg] at this;refine⟨this.1,?_⟩;have h2:=this.2
  rw [show((J.map λs=>[AV.v s]).getD i []).getD 0 .junk=.v (J.getD i undef) by
    rw[Bc (l:=J.map _),BQ,Bf hi,Bc (l:=J),Bf hi];rfl] at h2
  exact dD (ρ:=λ_=>none) (κ:=λ_=>0) (h:=λ_=>none) (.clo h2)
 have hN:∀n b,Hn (hin.map some) n=some b->(n=.b 0∧b=sB l y)∨(n=.b 1∧b=.var (mid A1 (.loc (.b 2) 0 (d.getD j []).length) A2) false)∨(n=.b 2∧b=.arr 1 (E cI (d.getD j [])) false):=by
  intro n b h
  match n,h with
  |.b 0,h=>exact .inl ⟨rfl,by simpa[Hn,hin] using h.symm⟩
  |.b 1,h=>exact .inr (.inl ⟨rfl,by simpa[Hn,hin] using h.symm⟩)
  |.b 2,h=>exact .inr (.inr ⟨rfl,by simpa[Hn,hin] using h.symm⟩)
  |.b (i+3),h=>simp[Hn,hin] at h
  |.t _ _,h=>simp[Hn] at h
 have qc:(mid A1 (.loc (.b 2) 0 (d.getD j []).length) A2).length=J.length:=by rw[aEM,Z];simp
 have qo:HOK S w ρ0 κ0 (Hn (hin.map some)):=by
  refine⟨λn b G=>?_,λn m b h1 h2 h3 h4=>?_,H.hok.dom,H.hok.env⟩
  .rcases hN n b G with⟨rfl,rfl⟩|⟨rfl,rfl⟩|⟨rfl,rfl⟩
   .exact(H.hok.blk (.b 0) _ h0).mono (λ_ h=>h) (λ_ _ h=>h) (λ_ _=>rfl) (λ_ _=>rfl) rfl rfl λm hm=>by rw[aCL] at hm;cases hm
   .refine⟨x,cells,T,fr,g1,g2,g3,λh=>g4 h,λh=>(by cases h),g6,by rw[qc];exact g7,λi hi=>?_⟩;rw[qc] at hi;obtain⟨e1,e2⟩:=qa i hi;refine⟨e1,?_⟩;rw[e2];by_cases Y:i=j
    .subst Y;rw[←U,aFs,U,qq,←qw];exact .loc _ _ _ _ (aAi.of_own hv rfl rfl rfl)
    .rw[aJV (by rw[qc];exact hi) (by rw[U];exact Y) s,←Z];exact .clo (.v _)
   .have:=hv.blk;simp only[wW] at this⊢;exact this
  .obtain⟨b1,hf⟩:=AQ.1 h1;obtain⟨b2,hg⟩:=AQ.1 h2;rcases hN n b1 hf with⟨rfl,_⟩|⟨rfl,_⟩|⟨rfl,_⟩<;>rcases hN m b2 hg with⟨rfl,_⟩|⟨rfl,_⟩|⟨rfl,_⟩<;>(first|rfl|exfalso)
   .exact hn b h3 h4
   .exact(I j b L h4).2.2 (.b 0) V h3
   .exact hn b h4 h3
   .exact(I j b L h4).2.2 (.t 11 0) hw h3
   .exact(I j b L h3).2.2 (.b 0) V h4
   .exact(I j b L h3).2.2 (.t 11 0) hw h4
 have h6:∀b,sO ρ0 hin b->ρ (.b 0)=some b∨ρ (.t 11 0)=some b∨xs j=some b:=by
  rintro b ⟨i,hi,G⟩
  match i,hi,G with
  |0,_,G=>exact .inl G
  |1,_,G=>exact .inr (.inl G)
  |2,_,G=>exact .inr (.inr G)
  | i+3,hi,_ =>
   have h3:i+3<3:=hi;omega
 refine(SP.use S w ρ0 κ0 #[u0,u1] qo (λb G=>?_) rfl λi hi=>?_).mono ?_
 .simp only[Ay,Az,Bo] at G;rcases G with rfl|rfl|rfl<;>rfl
 .match i,hi with
  | 0,_ =>
   refine .ptr _ _ _ _ λb G=>?_;rcases hN _ b G with⟨_,rfl⟩|⟨h,_⟩|⟨h,_⟩
   .exact eG qr _ h0
   .cases h
   .cases h
  | 1,_ =>
   refine .ptr _ _ _ _ λb G=>?_;rcases hN _ b G with⟨h,_⟩|⟨_,rfl⟩|⟨h,_⟩
   .cases h
   .obtain⟨x2,qe,hu⟩:=eG qs _ hR;refine⟨x2,qe,?_⟩;show u1=_
    rw[hu,U];simp[Blk.k]
   .cases h
 rintro e w' ⟨v,S',ρ',κ',rfl,hpo,hr⟩;obtain⟨hx,qf,_⟩:=hpo.keep 0 (sB l z) (by simp) rfl;obtain⟨qg,jb,_⟩:=hpo.keep 1 (.var (mid A1 xx A2) false) (by simp) rfl;obtain⟨qh,jc,_⟩:=hpo.keep 2 (.arr 1 (E cI c') false) (by simp) rfl;have hx:ρ' (.b 0)=ρ (.b 0):=hx;have qf:κ' (.b 0)=κ (.b 0):=qf;have qg:ρ' (.b 1)=ρ (.t 11 0):=qg;have qh:ρ' (.b 2)=xs j:=qh
 have h7:∀b,b<w.heap.size->ρ (.b 0)≠some b->ρ (.t 11 0)≠some b->xs j≠some b->w'.heap[b]? = w.heap[b]?:=λb G q1 q2 q3=>hpo.old b G λhm=>by
  rcases h6 b hm with h|h|h
  .exact q1 h
  .exact q2 h
  .exact q3 h
 let S2:Nat->Prop:=λb=>S' b∨ρ (.t 11 0)=some b∨∃i,i<J.length∧xs i=some b
 have qd:RC S2 w' (.sl 1 (E cC (d.set j O))) v0:=by
  obtain⟨_,qi,cap,rfl,q2,q3,q4,_⟩:=iE h4 1 (J.map λs=>[AV.v s]) false hR;obtain⟨x1,q6,h9⟩:=q4 (by omega);have:x1=x:=Av (q6.symm.trans g1);subst this;obtain⟨x2,M,T',q8,r1,r2,r3,r4,r5,r6,r7,r8⟩:=hpo.hok.blk (.b 1) (.var (mid A1 xx A2) false) rfl;have qe:x2=x1:=Av (r1.symm.trans (qg.trans g1));subst qe;have h5:(mid A1 xx A2).length=J.length:=by rw[aEM,Z];simp
  rw[h5] at r7 r8;have he:(E cC (d.set j O)).length=J.length:=by rw[aH,Ao,qn]
  rw[←he];refine .sl 1 _ qi cap x2 0 (λi=>M.getD i undef) (λ_=>⟨h9.trans (by simp),.inr (.inl g1)⟩) (λi jj hi qm=>?_) (λi jj hi qm=>?_) (λi jj hi qm=>?_) (λi hi=>?_) ⟨by rw[he];exact q2,q3⟩
  .obtain rfl:jj=0:=by omega
   rw[he] at hi;have:0+(i*1+0)<M.size:=by omega
   rw[Vs.cell_of_row r2 this];simp
  .obtain rfl:jj=0:=by omega
   rw[he] at hi;have:=(r8 i hi).1;simpa using this
  .obtain rfl:jj=0:=by omega
   rw[he] at hi;have qb:i<(d.set j O).length:=by rw[Ao];omega
   have h8:=(r8 i hi).2;refine(?_:RC S2 w' (((E cC (d.set j O)).getD i []).getD 0 .junk) (M.getD (i*1+0) undef));rw[show((E cC (d.set j O)).getD i []).getD 0 .junk=.sl 1 (E cI (d.set j O)[i]) by rw[aR qb];rfl,Nat.mul_one,Cg];by_cases Y:i=j
   .subst Y;rw[List.getElem_set_self];rw[←U,aFs] at h8;rw[U] at h8;rcases ql with⟨e,rfl⟩|e
    .rw[e] at h8;have hg:=hpo.hok.blk (.b 2) (.arr 1 (E cI O) false) rfl;have qz:(d.getD i []).length=(E cI O).length:=by rw[aH,qt]
     rw[qz] at h8;have q0:=iE h8
     have ho:Own S' w' (ρ' (.b 2)) (κ' (.b 2)) 1 (E cI O) (M.getD i undef):=⟨λk' l' z' qy=>by
       obtain⟨rfl,rfl,rfl⟩:1=k'∧E cI O=l'∧false=z':=by simpa using qy
       exact q0 1 (E cI O) false rfl,hg,aGU O⟩
     exact ho.rc.mono (λb G=>.inr (.inr ⟨i,L,qh ▸ G⟩)) λ_ _=>rfl
    .rw[e] at h8;exact(xU h8).mono (λ_ h=>.inl h) λ_ _=>rfl
   .rw[List.getElem_set_ne (DL Y)];rw[aJV (by rw[h5];exact hi) (by rw[U];exact Y) s,←Z] at h8;rw[dD h8];have qp:=(hq.row i hi).rc;have hid:i<d.length:=by omega
    rw[show(d.map (E cI)).getD i []=E cI d[i] by rw[Bc,BQ,Bf hid];rfl] at qp;refine qp.mono (λb G=>.inr (.inr ⟨i,hi,G⟩)) λb G=>?_;obtain⟨_,n2,n3⟩:=I i b hi G;exact h7 b n2 (n3 (.b 0) V) (n3 (.t 11 0) hw) λh=>Y (hq.dif i j b hi L G h)
  .have qb:i<(d.set j O).length:=by rw[aH] at hi;exact hi
   rw[aR qb];rfl
 have hk:∀n b,(⟨[(4,.sl 1 (E cC (d.set j O)))],[(.b 0,sB l z)]⟩:St).f.h n=some b->n=.b 0∧b=sB l z:=by
  intro n b G;simp only[St.f,aB] at G;split at G
  .rename_i h;exact⟨by first|exact h|exact h.symm,(Av G).symm⟩
  .cases G
 refine⟨v,S2,rfl,H.nt,H.defers,λt=>?_,⟨λn b G=>?_,λn m b h1 h2 h3 h4=>?_,λb G=>?_,hpo.hok.env.mono (λ_ h=>.inl h) λ_ _=>rfl⟩,BJ H.size hpo.size,λb G hm=>?_,λn b h1 h2=>?_,λb G=>.inl (hpo.sub b (H.S0 b G)),λb G=>?_,⟨hpo.out.1.trans H.out.1,hpo.out.2.trans H.out.2⟩,λi b G=>?_⟩
 .by_cases ht:t=4
  .subst ht;rw[show(⟨[(4,.sl 1 (E cC (d.set j O)))],[(.b 0,sB l z)]⟩:St).f.s 4=.sl 1 (E cC (d.set j O)) by simp[St.f,Vs.look],q5];exact .clo qd
  .rw[show(⟨[(4,.sl 1 (E cC (d.set j O)))],[(.b 0,sB l z)]⟩:St).f.s t=.junk by simp[St.f,Vs.look,ht,DL ht]];exact .junk _
 .obtain⟨rfl,rfl⟩:=hk n b G;refine(hpo.hok.blk (.b 0) (sB l z) rfl).mono (λ_ h=>.inl h) (λb G hs=>?_) (λ_ _=>rfl) (λ_ _=>rfl) hx.symm qf.symm λm hm=>by rw[aCL] at hm;cases hm
  rcases hs with h|h|⟨i,hi,h⟩
  .exact h
  .exact(hn b (hx ▸ G) h).elim
  .exact((I i b hi h).2.2 (.b 0) V (hx ▸ G)).elim
 .obtain⟨b1,hf⟩:=AQ.1 h1;obtain⟨b2,hg⟩:=AQ.1 h2;rw[(hk n b1 hf).1,(hk m b2 hg).1]
 .rcases G with h|h|⟨i,hi,h⟩
  .exact hpo.hok.dom b h
  .exact BR (H.hok.lt hw h) hpo.size
  .exact BR (I i b hi h).2.1 hpo.size
 .rw[h7 b (BR G H.size) (λh=>?_) (λh=>?_) λh=>?_]
  .exact H.old b G hm
  .rcases H.mine (.b 0) b V h with h'|h'
   .omega
   .exact hm h'
  .have:=hy b h;omega
  .have:=(I j b L h).1;omega
 .obtain⟨b1,hf⟩:=AQ.1 h1;obtain⟨rfl,_⟩:=hk n b1 hf;exact H.mine (.b 0) b V h2
 .rcases G with h|h|⟨i,hi,h⟩
  .rcases hpo.new b h with h'|h'|h'
   .exact H.Snew b h'
   .exact .inr (.inl (BJ H.size h'))
   .rcases h6 b h' with h2|h2|h2
    .rcases H.mine (.b 0) b V h2 with q|q
     .exact .inr (.inl q)
     .exact .inr (.inr q)
    .exact .inr (.inl (hy b h2))
    .exact .inr (.inl (I j b L h2).1)
  .exact .inr (.inl (hy b h))
  .exact .inr (.inl (I i b hi h).1)
 .obtain⟨hi,rfl⟩:=hk (.b i) b G;have qx:i=0:=by simpa using hi
  subst qx;obtain⟨e1,e2,b0,e3,e4⟩:=H.keep 0 (sB l y) h0;exact⟨e1,e2,b0,e3,Blk.same_trans e4 (by simp[sB,Blk.same])⟩
end
end Go.Proofs.YtmiiohemehacjaaGreatDoor
