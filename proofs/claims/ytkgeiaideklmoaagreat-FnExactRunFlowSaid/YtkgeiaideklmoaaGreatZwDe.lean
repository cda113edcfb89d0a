/- MatchDecks in memory of its own. -/
import Derived.Test.YtkgeiaideklmoaaGreatZwDb
import Derived.Test.YtkgeiaideklmoaaGreatZwVh
import Derived.Test.YtkgeiaideklmoaaGreatZwVl
import Derived.Test.YtkgeiaideklmoaaGreatZwDd
set_option linter.all false
set_option maxHeartbeats 8000000
namespace Go.Proofs.YtkgeiaideklmoaaGreat
open Go.Vs
section
variable [Vs.Envs]
attribute [local irreducible] Vs.Fn dR iP bA mgC iW gN bJ bK aO bL bM l03 chB rk cd3 chI stp aP
def aJK:List (List Nat):=[[0,1,2,3,4,5,6,7],[0,1,2,4,3,5,6,7],[0,1,4,2,3,5,6,7],[0,2,1,3,4,5,6,7],[0,2,1,4,3,5,6,7],[0,2,4,1,3,5,6,7],[0,4,1,2,3,5,6,7],[0,4,2,1,3,5,6,7],[2,0,1,3,4,5,6,7],[2,0,1,4,3,5,6,7],[2,0,4,1,3,5,6,7],[2,4,0,1,3,5,6,7],[4,0,1,2,3,5,6,7],[4,0,2,1,3,5,6,7],[4,2,0,1,3,5,6,7]]
theorem aNO {fr to:Int}{a b:List (List Int)} (h:mgC fr to a b=0):iW fr to [a,b]=0∧aHt a b=false∧gN fr to a=true∧gN fr to b=true∧a.length+b.length<=40:=by
 unfold mgC at h;split at h
 .rename_i F;cases hcl:aHt a b
  .rw[hcl] at h;cases h1:gN fr to a
   .simp[h1] at h
   .cases h2:gN fr to b
    .simp[h1,h2] at h
    .simp[h1,h2] at h;exact⟨F,rfl,rfl,rfl,by omega⟩
  .simp[hcl] at h
 .rename_i F;exact absurd h F
variable {C1:Ctx}
theorem mdE (L:C1.nt=Tryz.f121.ntmps) {w0:World} (Y:C1.w0=w0) {I:Vs.Envs}{a2:Act}{w2:World}{S2:Nat->Prop}{l:List (List Int)}{fr to:Int} (ho:∀c,c∈l->okF fr to c) (hl:l.length<=40) (hs:∀x,x∈l->x.length<=1048576)
  (H:Vs.Pt I C1 (⟨[(55,.sl 1 (E cC l)),(56,.agg (cFd fr to))],[]⟩   : St) a2 w2 S2) :
  RgL Tryz.prog Tryz.f121.ntmps (⟨some 57,.call (.func F.gM) ([55,56].map .tmp) [],none⟩::[⟨some 6,.mv (.tmp 57),none⟩,⟨some 7,.mv (.const (.int .i64 (0))),none⟩]) (Exit.then (Vs.At Tryz.prog Tryz.f121.ntmps (Vs.drO Tryz.prog 8 aJK) .ret λe U w'=>(e=.ret∨e=.normal)∧U.defers=[]∧∃v,(results Tryz.f121 U.tmps).run Tryz.prog w'=.ok v w'∧aBd w0 ((iP fr to l).map (E cI)) (.returned v) w') λe U w'=>(e=.ret∨e=.normal)∧U.defers=[]∧∃v,(results Tryz.f121 U.tmps).run Tryz.prog w'=.ok v w'∧aBd w0 ((iP fr to l).map (E cI)) (.returned v) w') a2 w2:=by
 refine H.rgc L (ts:=[55,56]) (ys:=[.sl 1 (E cC l),.agg (cFd fr to)]) (jZ Cd.i_sortedBy_k.o) rfl rfl λus hc hr=>?_;refine(aBJ l fr to ho hl hs H.dom H.env hc hr).mono ?_;rintro e w3 ⟨v,rfl,hg,m,hd3,hn⟩;refine⟨_,rfl,?_⟩;have Z:=(H.grow hg (D:=m.D) (λb O=>⟨hn b O,hd3.lt b O⟩) [] (λp hp=>by cases hp)).putR (d:=57) (by rw[L,Cd.i_MergeDecks_k.n];omega) (r:=.v v) (.v _)
 letI I3:=Vs.keepE (λb=>S2 b∨m.D b) w3
 refine Z.rgN L 2 (τ:=⟨[(6,.v v),(7,.v (.int .i64 0))],[]⟩) ?_ λa5 w5 S5 p5 ha=>RgL.nil ?_
 .simp -dsimp only[go_sem,Bh,Bz,Int.reduceBEq,Int.reduceBNe,cC,cFd,Af,Ag,Al,Aq,Ae,Ai,Ac,Ak,Ab,Ah,Am,aH,cD];simp[Vs.LeL,Vs.look,aA]
 have J:=ha.retDk (fn:=Tryz.f121) Y hd3 (λb O=>by have:=hn b O;have h9:=H.size;rw[Y] at h9;omega) (λb O=>.inr O) p5 (by
   show dQ Tryz.prog _ _ [_,_]
   simp[dQ,qX,Vs.look,dU])
 refine At.ret ?_
 first|exact⟨.inl rfl,J⟩|(simp only[Exit.inBlock,Exit.then];exact⟨.inl trivial,J⟩)
attribute [local go_sem] Int.reduceBEq Int.reduceBNe Af Ag Al Aq Ae Ai Ac Ak Ab Ah Am aH cD in
theorem aDJ (H I:List (List Int)) (fr to:Int) (Y:aZ H) (hb:aZ I) (h0:mgC fr to H I=0) {S:Nat->Prop}{w:World}{vs:Array Value} (hS:∀b,S b->b<w.heap.size) (he:Env S w) (hy:vs.size=3) (J:∀j,j<3->RC S w (([.sl 1 (E cC H),.sl 1 (E cC I),.agg (cFd fr to)]:List AV).getD j .junk) (vs.getD j undef)):Calls Tryz.prog F.fU vs w (aBd w ((iP fr to (H++I)).map (E cI))):=by
 obtain⟨hc,hm,h1,h2,hq⟩:=aNO h0;have U:=wrap_add Y.1 hb.1;obtain⟨⟨da,db⟩,⟨fa,fb⟩,ca,cb⟩:=zQ hc;have oa:=dF da fa;have ob:=dF db fb;have CC:=qR fr to [H,I] (yU Y hb);rw[hc] at CC;have DA:=iF H;have DB:=iF I;have IA:=fZ H fr to oa Y.1;have IB:=fZ I fr to ob hb.1;rw[h1] at IA;rw[h2] at IB;have e5:decide ((H.length:Int)+(I.length:Int)>40)=false:=AO (by omega);have ho:∀c,c∈H++I->okF fr to c:=λc h=>(Bf.1 h).elim (oa c) (ob c);have hs:∀c,c∈H++I->c.length<=1048576:=λc h=>(Bf.1 h).elim (Y.2 c) (hb.2 c);have hl:(H++I).length<=40:=by rw[AQ];exact hq
 have ND:=aEQ H Y.2 Y.1;obtain⟨g1,_,_⟩:=Cd.i_MergeDecks_k.o;have g2:Tryz.f121.body.bind (bI Tryz.prog Tryz.f121.ntmps (Vs.drO Tryz.prog 8 aJK))=some Cd.fU.bare:=by kernel_rfl
 obtain⟨h4,hj,hr⟩:=AY.1 g2;have hz:(Tryz.f121.body.map (zB Tryz.f121.ntmps (Vs.drO Tryz.prog 8 aJK)))=some true:=by kernel_rfl
 rw[hj] at hz;have ht:=@aLo;clear ht;refine Vs.Pt.calls (dr:=(Vs.drO Tryz.prog 8 aJK)) (ac:=Cd.fU) g1 hj hr (by simpa using hz) (args:=[.sl 1 (E cC H),.sl 1 (E cC I),.agg (cFd fr to)]) (by rw[Cd.i_MergeDecks_k.n];exact Bc rfl) hS he hy J λC1 a O h3 h5 hp=>?_;unfold Cd.fU;refine hp.goT (aLo Tryz.mixed _ _) O 3 _ (τ:=⟨[(0,.sl 1 (E cC H)),(1,.sl 1 (E cC I)),(5,.ptr (.t 5 0) 0 0)],[(.t 5 0,.var (cFd fr to) false)]⟩) (λC hC=>?_) λa1 w1 S1 p1 hu=>?_
 .by_cases hA:0<H.length
  .have Z:decide ((H.length:Int)>0)=true:=A7 (by omega);have wA:=aAr hA;have gA:=aEn hA;by_cases hB:0<I.length
   .have eB:decide ((I.length:Int)>0)=true:=A7 (by omega);have wB:=aAr hB;have gB:=aEn hB
    have eW:(bJ H != bJ I)=false:=by
     cases e:(bJ H != bJ I)
     .rfl
     .rw[show aHt H I=true by simp only[aHt,Z,eB,e];rfl] at hm;cases hm
    have hd:=eW;rw[wA,wB] at hd
    repeat' first|simp -dsimp only[go_sem,Z,eB,eW,hd,gA,gB,U,e5,cC,cFd]|apply Br.mk<;>intro h<;>try simp -dsimp only[h]|refine aB.c (by first|exact CC|exact DA|exact DB|exact IA|exact IB) ?_|refine aC ?_|fail
    all_goals first|(simp[Vs.LeL,Vs.look,aA];done)|exact⟨by simp[Vs.LeL,Vs.look,aA],trivial⟩|omega
   .have eB:decide ((I.length:Int)>0)=false:=AO (by omega)
    repeat' first|simp -dsimp only[go_sem,Z,eB,U,e5,cC,cFd]|apply Br.mk<;>intro h<;>try simp -dsimp only[h]|refine aB.c (by first|exact CC|exact DA|exact DB|exact IA|exact IB) ?_|refine aC ?_|fail
    all_goals first|(simp[Vs.LeL,Vs.look,aA];done)|exact⟨by simp[Vs.LeL,Vs.look,aA],trivial⟩|omega
  .have Z:decide ((H.length:Int)>0)=false:=AO (by omega)
   repeat' first|simp -dsimp only[go_sem,Z,U,e5,cC,cFd]|apply Br.mk<;>intro h<;>try simp -dsimp only[h]|refine aB.c (by first|exact CC|exact DA|exact DB|exact IA|exact IB) ?_|refine aC ?_|fail
   all_goals first|(simp[Vs.LeL,Vs.look,aA];done)|exact⟨by simp[Vs.LeL,Vs.look,aA],trivial⟩|omega
 have hh:E cC H++E cC I=E cC (H++I):=by rw[bH]
 have hk:(E cC I).length=I.length:=aH _;have hg:(E cC H).length=H.length:=aH _;have hf:(E cC (H++I)).length=H.length+I.length:=by rw[aH,AQ]
 have hx:(E cC I).take I.length=E cC I:=Aj (by rw[hk];exact Ar _);have hw:(E cC H).take H.length=E cC H:=Aj (by rw[hg];exact Ar _);show Vs.At Tryz.prog Tryz.f121.ntmps (Vs.drO Tryz.prog 8 aJK) (.seq (.region [⟨some 52,.mv (.tmp 0),none⟩,⟨some 53,.call (.func F.dE) [(.tmp 52)] [],none⟩,⟨some 54,.mv (.tmp 1),none⟩,⟨some 55,.append 1 24 (.tmp 53) (.tmp 54),none⟩,⟨some 56,.loadV true 2 (.tmp 5),none⟩,⟨some 57,.call (.func F.gM) [(.tmp 55),(.tmp 56)] [],none⟩,⟨some 6,.mv (.tmp 57),none⟩,⟨some 7,.mv (.const (.int .i64 (0))),none⟩] _ _) .ret) _ a1 w1
 refine At.seq (At.rgs Tryz.mixed rfl (by decide +kernel) λL hL=>?_);have hn:=hu.drew;generalize({w1 with drawn:=w1.drawn+1}:World)=w2 at hn;simp only[aJK,Ap,Ao,AX] at hL;rcases hL with rfl|rfl|rfl|rfl|rfl|rfl|rfl|rfl|rfl|rfl|rfl|rfl|rfl|rfl|rfl
 all_goals
  refine hn.rgCloseM O 5 (t:=55) (τ:=⟨[(55,.sl 1 (E cC (H++I))),(56,.agg (cFd fr to))],[]⟩) (λp hp=>by cases hp) ?_ λa3 w3 S3 p3 hv=>mdE O h3 ho hl hs hv;simp -dsimp only[BD,BX,Aw,A9,Bh,Bz]
  repeat' first|simp -dsimp only[go_sem,hh,hk,hg,hf,hx,hw,cC,cFd]|apply Br.mk<;>intro h<;>try simp -dsimp only[h]|refine aB.own (by first|exact ND) rfl ?_|refine aC ?_|fail
  all_goals first|(simp[Vs.LeL,Vs.look,aA];done)|omega|exact⟨by simp[Vs.LeL,Vs.look,aA],trivial⟩|(and_intros<;>first|omega|rfl|(simp[Vs.LeL,Vs.look,aA];done))
end
section
variable [Vs.Envs]
attribute [local irreducible] Vs.Fn iW gN mtC mat bK aO bL bM l03 chB rk cd3 chI stp aP
theorem aNM {fr to:Int}{a b:List (List Int)} (h:mtC fr to a b=0):iW fr to [a,b]=0∧gN fr to a=true∧gN fr to b=true:=by
 unfold mtC at h;split at h
 .rename_i F;cases h1:gN fr to a
  .simp[h1] at h
  .cases h2:gN fr to b
   .simp[h1,h2] at h
   .exact⟨F,rfl,rfl⟩
 .rename_i F;exact absurd h F
theorem aAK {S:Nat->Prop}{w:World}{k:Nat}{l:List (List AV)}{v:Value} (h:RC S w (.sl k l) v):∃b n c,v=.slice b n c:=by
 cases h;exact⟨_,_,_,rfl⟩
def MtRes (w:World) (fr to:Int) (l1 l2:List (List Int)) (e:Ending) (w':World):Prop:=∃(v s0 s1 s2 s3:Value) (x:Option Nat),e=.returned (.tuple #[v,.int .i64 0])∧kY w w'∧RC (λb=>x=some b) w' (.sl 1 [[.v s0],[.v s1],[.v s2],[.v s3]]) v∧(∀b,x=some b->w.heap.size<=b∧b<w'.heap.size)∧aBb w w' ((mat fr to l1 l2 true).map (E cI)) s0∧aBb w w' ((mat fr to l1 l2 false).map (E cI)) s2
attribute [local go_sem] Bh Bz Int.reduceBEq Int.reduceBNe Af Ag Al Aq Ae Ai Ac Ak Ab Ah Am aH cD in
theorem aDK (J L:List (List Int)) (fr to:Int) (ha:aZ J) (H:aZ L) (h0:mtC fr to J L=0) {S:Nat->Prop}{w:World}{vs:Array Value} (hS:∀b,S b->b<w.heap.size) (he:Env S w) (qr:vs.size=3) (hm:∀j,j<3->RC S w (([.sl 1 (E cC J),.sl 1 (E cC L),.agg (cFd fr to)]:List AV).getD j .junk) (vs.getD j undef)):Calls Tryz.prog F.iE vs w (MtRes w fr to J L):=by
 obtain⟨hc,h1,h2⟩:=aNM h0;obtain⟨⟨da,db⟩,⟨fa,fb⟩,ca,cb⟩:=zQ hc;have oa:=dF da fa;have ob:=dF db fb;have CC:=qR fr to [J,L] (yU ha H);rw[hc] at CC;have IA:=fZ J fr to oa ha.1;have IB:=fZ L fr to ob H.1;rw[h1] at IA;rw[h2] at IB;obtain⟨g1,g2,_⟩:=Cd.i_MatchDecks_k.o;obtain⟨qz,ho,qb⟩:=AY.1 g2;have hz:(Tryz.f124.body.map (zB Tryz.f124.ntmps (aW Tryz.prog)))=some true:=by kernel_rfl
 rw[ho] at hz;have qd:=bB Tryz.mixed;refine Vs.Pt.calls (dr:=aW Tryz.prog) (ac:=Cd.iE) g1 ho qb (by simpa using hz) (args:=[.sl 1 (E cC J),.sl 1 (E cC L),.agg (cFd fr to)]) (by rw[Cd.i_MatchDecks_k.n];exact Bc rfl) hS he qr hm λC1 a I hd q8 hp=>?_;unfold Cd.iE;refine hp.goC (τ:=⟨[(0,.sl 1 (E cC J)),(1,.sl 1 (E cC L)),(9,.fn F.aT [.ptr (.t 5 0) 0 0])],[(.t 5 0,.var (cFd fr to) false)]⟩) qd I 4 _ (E:=λ_ _=>False) [(0,.sl 1 (E cC J)),(1,.sl 1 (E cC L)),(9,.fn F.aT [.ro (cFd fr to)])] (λp hp=>?_) (λC hC=>?_) (λi σ h=>h) (λC a w hl hg=>hg.no.elim) λI1 a0 w0 S0 p0 qe=>?_
 .simp only[Ap,Ao,AX] at hp;rcases hp with rfl|rfl|rfl<;>exact⟨rfl,_,rfl⟩
 .simp -dsimp only[go_sem,cC,cFd]
  repeat' first|simp -dsimp only[go_sem,cC,cFd]|apply Br.mk<;>intro h<;>try simp -dsimp only[h]|refine aB.c (by first|exact CC|exact IA|exact IB) ?_|refine aC ?_|fail
  all_goals first|(simp[Vs.LeL,Vs.look,aA];done)|omega
 refine At.seq (At.rg ?_);refine qe.rgN I 3 (τ:=⟨[(31,.fn F.aT [.ro (cFd fr to)]),(32,.sl 1 (E cC J)),(33,.sl 1 (E cC L)),(0,.sl 1 (E cC J)),(1,.sl 1 (E cC L)),(9,.fn F.aT [.ro (cFd fr to)])],[]⟩) ?_ λq4 h3 hf jb O=>O.rgcallF I (t:=31) (argl:=[.tmp 32,.tmp 33,.const (.bool true)]) (ys:=[.sl 1 (E cC J),.sl 1 (E cC L),.v (.bool true)]) (cs:=[.ro (cFd fr to)]) (jZ Cd.i_MatchDecks_1_k.o) rfl rfl rfl (λi hi=>by match i,hi with|0,_=>rfl|1,_=>rfl|2,_=>rfl) (λi hi=>by match i,hi with|0,_=>rfl|1,_=>rfl|2,_=>rfl) λjd ht qj=>?_
 .simp -dsimp only[go_sem,cC,cFd]
  first|(simp[Vs.LeL,Vs.look,aA];done)
 refine(wJ J L fr to true ha H.1 oa ob O.dom O.env ht qj).mono ?_;rintro e0 h4 ⟨v0,rfl,hg0,m0,hd0,hn0⟩;refine⟨v0,rfl,?_⟩
 have qf:=(O.grow hg0 (D:=m0.D) (λb H=>⟨hn0 b H,hd0.lt b H⟩) [(0,.sl 1 (E cC J)),(1,.sl 1 (E cC L)),(9,.fn F.aT [.ro (cFd fr to)])] (λp hp=>by
     simp only[Ap,Ao,AX] at hp;rcases hp with rfl|rfl|rfl<;>exact⟨rfl,.inr rfl⟩)).put (d:=34) (by rw[I,Cd.i_MatchDecks_k.n];omega) v0
 obtain⟨b0,n0,c0,qn⟩:=aAK hd0.root
 letI J0:=Vs.keepE (λb=>hf b∨m0.D b) h4
 have jc:Vs.Past hf h3 (λb=>hf b∨m0.D b) h4:=Vs.Past.grow hg0 O.dom;have qs:w.heap.size<=h3.heap.size:=by rw[←hd];exact O.size
 refine qf.rgN I 3 (τ:=⟨[(35,.fn F.aT [.ro (cFd fr to)]),(36,.sl 1 (E cC L)),(37,.sl 1 (E cC J)),(34,.v v0),(0,.sl 1 (E cC J)),(1,.sl 1 (E cC L)),(9,.fn F.aT [.ro (cFd fr to)])],[]⟩) ?_ λq5 h5 hj qu U=>U.rgcallF I (t:=35) (argl:=[.tmp 36,.tmp 37,.const (.bool true)]) (ys:=[.sl 1 (E cC L),.sl 1 (E cC J),.v (.bool true)]) (cs:=[.ro (cFd fr to)]) (jZ Cd.i_MatchDecks_1_k.o) rfl rfl rfl (λi hi=>by match i,hi with|0,_=>rfl|1,_=>rfl|2,_=>rfl) (λi hi=>by match i,hi with|0,_=>rfl|1,_=>rfl|2,_=>rfl) λus1 hu qk=>?_
 .simp -dsimp only[go_sem,cC,cFd]
  first|(simp[Vs.LeL,Vs.look,aA];done)
 refine(wJ L J fr to true H ha.1 ob oa U.dom U.env hu qk).mono ?_;rintro e1 h6 ⟨v1,rfl,hg1,m1,hd1,hn1⟩;refine⟨v1,rfl,?_⟩
 have qg:=(U.grow hg1 (D:=m1.D) (λb H=>⟨hn1 b H,hd1.lt b H⟩) [(34,.v v0),(0,.sl 1 (E cC J)),(1,.sl 1 (E cC L)),(9,.fn F.aT [.ro (cFd fr to)])] (λp hp=>by
     simp only[Ap,Ao,AX] at hp;rcases hp with rfl|rfl|rfl|rfl<;>exact⟨rfl,.inr rfl⟩)).put (d:=38) (by rw[I,Cd.i_MatchDecks_k.n];omega) v1
 obtain⟨b1,n1,c1,qo⟩:=aAK hd1.root
 letI J1:=Vs.keepE (λb=>hj b∨m1.D b) h6
 have qw:Vs.Past hj h5 (λb=>hj b∨m1.D b) h6:=Vs.Past.grow hg1 U.dom;have q9:w.heap.size<=h5.heap.size:=by rw[←hd];exact U.size
 refine qg.rgN I 3 (τ:=⟨[(39,.fn F.aT [.ro (cFd fr to)]),(40,.sl 1 (E cC J)),(41,.sl 1 (E cC L)),(38,.v v1),(34,.v v0),(0,.sl 1 (E cC J)),(1,.sl 1 (E cC L)),(9,.fn F.aT [.ro (cFd fr to)])],[]⟩) ?_ λq6 h7 hh qv Y=>Y.rgcallF I (t:=39) (argl:=[.tmp 40,.tmp 41,.const (.bool false)]) (ys:=[.sl 1 (E cC J),.sl 1 (E cC L),.v (.bool false)]) (cs:=[.ro (cFd fr to)]) (jZ Cd.i_MatchDecks_1_k.o) rfl rfl rfl (λi hi=>by match i,hi with|0,_=>rfl|1,_=>rfl|2,_=>rfl) (λi hi=>by match i,hi with|0,_=>rfl|1,_=>rfl|2,_=>rfl) λus2 hv ql=>?_
 .simp -dsimp only[go_sem,cC,cFd]
  first|(simp[Vs.LeL,Vs.look,aA];done)
 refine(wJ J L fr to false ha H.1 oa ob Y.dom Y.env hv ql).mono ?_;rintro e2 h8 ⟨v2,rfl,hg2,m2,hd2,hn2⟩;refine⟨v2,rfl,?_⟩
 have qh:=(Y.grow hg2 (D:=m2.D) (λb H=>⟨hn2 b H,hd2.lt b H⟩) [(38,.v v1),(34,.v v0),(0,.sl 1 (E cC J)),(1,.sl 1 (E cC L)),(9,.fn F.aT [.ro (cFd fr to)])] (λp hp=>by
     simp only[Ap,Ao,AX] at hp;rcases hp with rfl|rfl|rfl|rfl|rfl<;>exact⟨rfl,.inr rfl⟩)).put (d:=42) (by rw[I,Cd.i_MatchDecks_k.n];omega) v2
 obtain⟨b2,n2,c2,qp⟩:=aAK hd2.root
 letI J2:=Vs.keepE (λb=>hh b∨m2.D b) h8
 have qx:Vs.Past hh h7 (λb=>hh b∨m2.D b) h8:=Vs.Past.grow hg2 Y.dom;have qt:w.heap.size<=h7.heap.size:=by rw[←hd];exact Y.size
 refine qh.rgN I 3 (τ:=⟨[(43,.fn F.aT [.ro (cFd fr to)]),(44,.sl 1 (E cC L)),(45,.sl 1 (E cC J)),(42,.v v2),(38,.v v1),(34,.v v0),(0,.sl 1 (E cC J)),(1,.sl 1 (E cC L)),(9,.fn F.aT [.ro (cFd fr to)])],[]⟩) ?_ λq7 h9 hk hy Z=>Z.rgcallF I (t:=43) (argl:=[.tmp 44,.tmp 45,.const (.bool false)]) (ys:=[.sl 1 (E cC L),.sl 1 (E cC J),.v (.bool false)]) (cs:=[.ro (cFd fr to)]) (jZ Cd.i_MatchDecks_1_k.o) rfl rfl rfl (λi hi=>by match i,hi with|0,_=>rfl|1,_=>rfl|2,_=>rfl) (λi hi=>by match i,hi with|0,_=>rfl|1,_=>rfl|2,_=>rfl) λje hw qm=>?_
 .simp -dsimp only[go_sem,cC,cFd]
  first|(simp[Vs.LeL,Vs.look,aA];done)
 refine(wJ L J fr to false H ha.1 ob oa Z.dom Z.env hw qm).mono ?_;rintro e3 qa ⟨v3,rfl,hg3,m3,hd3,hn3⟩;refine⟨v3,rfl,?_⟩
 have qi:=(Z.grow hg3 (D:=m3.D) (λb H=>⟨hn3 b H,hd3.lt b H⟩) [(42,.v v2),(38,.v v1),(34,.v v0),(0,.sl 1 (E cC J)),(1,.sl 1 (E cC L)),(9,.fn F.aT [.ro (cFd fr to)])] (λp hp=>by
     simp only[Ap,Ao,AX] at hp;rcases hp with rfl|rfl|rfl|rfl|rfl|rfl<;>exact⟨rfl,.inr rfl⟩)).put (d:=46) (by rw[I,Cd.i_MatchDecks_k.n];omega) v3
 obtain⟨b3,n3,c3,qq⟩:=aAK hd3.root
 letI J3:=Vs.keepE (λb=>hk b∨m3.D b) qa
 have qy:Vs.Past hk h9 (λb=>hk b∨m3.D b) qa:=Vs.Past.grow hg3 Z.dom;have ja:w.heap.size<=h9.heap.size:=by rw[←hd];exact Z.size
 refine qi.rgN I 3 (τ:=⟨[(6,.loc (.t 47 0) 0 4),(7,.v (.int .i64 0))],[(.t 47 0,.arr 1 [[.v v0],[.v v1],[.v v2],[.v v3]] false)]⟩) (hτ:=(fvC ⟨λr hr=>(by
       simp only[Ap,Ao,AX] at hr;rcases hr with rfl|rfl|rfl|rfl<;>rfl),rfl⟩ fvN)) ?_ λa9 w9 S9 p9 hq=>RgL.nil ?_
 .simp -dsimp only[go_sem,qn,qo,qp,qq,cC,cFd]
  first|(simp[Vs.LeL,Vs.look,aA];done)|(simp[Vs.LeL,Vs.look,aA];done)
 obtain ⟨qc,u,x,hs,hn,hx⟩:=hq.resRow (fn:=Tryz.f124) (n:=.t 47 0) (k:=1) (rows:=[[.v v0],[.v v1],[.v v2],[.v v3]]) rfl (λr hr=>(by
     simp only[Ap,Ao,AX] at hr;rcases hr with rfl|rfl|rfl|rfl<;>rfl)) (c:=.int .i64 0) (len:=4) (by
   show dQ Tryz.prog _ _ [_,_]
   simp[dQ,qX,Vs.look,dU])
 have q3:=qy.trans p9;have q2:=(qx.trans hy).trans q3;have q1:=(qw.trans qv).trans q2;have q0:=qu.trans q1;refine At.ret ⟨.inl rfl,qc,_,hs,u,v0,v1,v2,v3,x,rfl,hd ▸ hq.out,hn,λb H=>⟨hd ▸ (hx b H).1,(hx b H).2.1⟩,⟨m0,hd0.past (S:=λb=>hf b∨m0.D b) (λb H=>.inr H) q0,λb H=>Bl qs (hn0 b H)⟩,⟨m2,hd2.past (S:=λb=>hh b∨m2.D b) (λb H=>.inr H) (hy.trans q3),λb H=>Bl qt (hn2 b H)⟩⟩
end
end Go.Proofs.YtkgeiaideklmoaaGreat
