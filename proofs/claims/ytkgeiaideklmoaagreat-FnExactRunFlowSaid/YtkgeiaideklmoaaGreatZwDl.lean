/- A run of the program answers an office in memory of its own. -/
import Derived.Test.YtkgeiaideklmoaaGreatZwDk
import Derived.Test.YtkgeiaideklmoaaGreatZwVu
set_option linter.all false
set_option maxHeartbeats 8000000
namespace Go.Proofs.YtkgeiaideklmoaaGreat
open Go.Vs
variable [Vs.Envs]
attribute [local irreducible] Vs.Fn bA mgC iM mtC iP oC mat tX dkC dkL jS jX lM wO dsC stO bK aO bL bM l03 chB rk cd3 chI stp aP
theorem gX {S:Nat->Prop}{w:World}{x y u:Value} (h:RC S w (.agg [.v x,.v y]) u):u=.agg #[x,y]:=by
 cases h with
 | agg _ vs hl hr =>
  have h0:=hr 0 (by simp);have F:=hr 1 (by simp)
  have H:vs.getD 0 undef=x:=by
   generalize vs.getD 0 undef=z at h0;cases h0;rfl
  have I:vs.getD 1 undef=y:=by
   generalize vs.getD 1 undef=z at F;cases F;rfl
  rw[uJ hl,H,I]
theorem aDX {S:Nat->Prop}{w:World} (x y:Value):RC S w (.agg [.v x,.v y]) (.agg #[x,y]):=.agg _ _ rfl λj F=>by
 match j,F with
 |0,_=>exact .v _
 |1,_=>exact .v _
theorem aKB {S:Nat->Prop}{w:World} (x y c:Value):RC S w (.tup [.agg [.v x,.v y],.v c]) (.tuple #[.agg #[x,y],c]):=.tup _ _ rfl λj F=>by
 match j,F with
 |0,_=>exact aDX x y
 |1,_=>exact .v _
theorem aKx {S:Nat->Prop}{w:World}{x y c u:Value} (h:RC S w (.tup [.agg [.v x,.v y],.v c]) u):u=.tuple #[.agg #[x,y],c]:=by
 cases h with
 | tup _ vs hl hr =>
  have h0:=gX (hr 0 (by simp));have F:=hr 1 (by simp)
  have H:vs.getD 1 undef=c:=by
   generalize vs.getD 1 undef=z at F;cases F;rfl
  rw[uJ hl,h0,H]
theorem OfM.sls {w:World}{o:Off}{H F:Value}{m:OM} (h:OfM w o H F m):∃t s:Sl,H=slW t∧F=slW s:=by
 have I:=h.rdT;have h2:=h.rdS;cases I;cases h2;exact⟨(_,_,_),(_,_,_),rfl,rfl⟩
theorem aFx {S:Nat->Prop}{w:World}{ρ:Vs.Name->Option Nat}{κ:Vs.Name->Nat}{g:Vs.Name->Option Vs.Blk}{x y c u:Value} (h:RV S w ρ κ g (.tup [.agg [.v x,.v y],.v c]) u):u=.tuple #[.agg #[x,y],c]:=by
 obtain⟨us,rfl,I,F⟩:=uC h;have U:us.getD 1 undef=c:=bE (F 1 (by simp));obtain⟨vs,e,J,H⟩:=jW (F 0 (by simp));have L:vs.getD 0 undef=x:=bE (H 0 (by simp));have O:vs.getD 1 undef=y:=bE (H 1 (by simp));rw[uJ I,e,U,uJ J,L,O]
attribute [local go_sem] Bh Bz Int.reduceBEq Int.reduceBNe cC cFd Af Ag Al Aq Ae Ai Ac Ak Ab Ah Am aH cD cO cP slW in
set_option maxRecDepth 20000 in
theorem aGV (T:List (List (List Int))) (U:List (List Tot)) (wd:Nat) (ho:okO wd ⟨T,U⟩) (fl:List Stp) (qy:∀x,x∈fl->x.text.size<=1048576) (qp:fl.length<=1048576) {S:Nat->Prop}{w:World}{vs:Array Value} (hS:∀b,S b->b<w.heap.size) (he:Env S w) (qv:vs.size=2) (hh:∀j,j<2->RC S w (([.agg [.sl 1 (E cD T),.sl 1 (E cTs U)],.sl 9 (E cS fl)]:List AV).getD j .junk) (vs.getD j undef)):Calls Tryz.prog F.pK vs w (λe0 w0=>∃L J,e0=.returned (.tuple #[.agg #[L,J],.int .i64 ((run ⟨T,U⟩ fl).2:Nat)])∧kY w w0∧aBa w w0 (run ⟨T,U⟩ fl).1 L J):=by
 have qi:=eG ho;have qs:wG T:=qi.1;have qt:rE U:=qi.2;have h4:(E cS fl).length=fl.length:=aH _;have qr:=aDS ⟨T,U⟩ fl;obtain⟨h1,h2,_⟩:=Cd.i_runFlow_k.o;obtain⟨q0,H,hc⟩:=AY.1 h2;have hz:(Tryz.f64.body.map (zB Tryz.f64.ntmps (aW Tryz.prog)))=some true:=by kernel_rfl
 rw[H] at hz;have qn:=bB Tryz.mixed;refine Vs.Pt.calls (dr:=aW Tryz.prog) (ac:=Cd.pK) h1 H hc (by simpa using hz) (args:=[.agg [.sl 1 (E cD T),.sl 1 (E cTs U)],.sl 9 (E cS fl)]) (by rw[Cd.i_runFlow_k.n];exact Bc rfl) hS he qv hh λC1 a I h8 q1 hp=>?_;unfold Cd.pK
 refine hp.goS (τ:=⟨[(1,.sl 9 (E cS fl)),(2,.ptr (.t 2 0) 0 0),(4,.ptr (.t 4 0) 0 0)],[(.t 2 0,.var [.sl 1 (E cD T),.sl 1 (E cTs U)] false),(.t 4 0,.var [.v (.slice none 0 0),.v (.slice none 0 0)] false)]⟩) qn I 1 _ (E:=λ_ _=>False) [(.t 4 0,.var [.v (.slice none 0 0),.v (.slice none 0 0)] false)] (λp hp=>by
     rw[Au.1 hp];exact⟨rfl,rfl,rfl⟩) [(1,.sl 9 (E cS fl)),(2,.ro [.sl 1 (E cD T),.sl 1 (E cTs U)]),(4,.ptr (.t 4 0) 0 0)] (λp hp=>?_) (λC hC=>?_) (λi σ h=>h) (λC a w hl hg=>hg.no.elim) λI1 a1 w1 S1 p1 h5=>?_
 .simp only[Ap,Ao,AX] at hp;rcases hp with rfl|rfl|rfl
  .exact .inr ⟨rfl,_,rfl,λn hn=>by cases hn⟩
  .exact .inr ⟨rfl,_,rfl,λn hn=>by
     have:n=.t 2 0:=by simpa using hn
     subst this;rfl⟩
  .exact .inl ⟨rfl,rfl⟩
 .simp -dsimp only[go_sem,cTs,cS]
  first|(simp[Vs.LeL,Vs.look,aA];done)
 refine At.seq (At.rg (h5.rgN I 1 (τ:=⟨[(11,.agg [.sl 1 (E cD T),.sl 1 (E cTs U)]),(1,.sl 9 (E cS fl)),(4,.ptr (.t 4 0) 0 0)],[(.t 4 0,.var [.v (.slice none 0 0),.v (.slice none 0 0)] false)]⟩) ?_ λa3 w3 S3 p3 Y=>Y.rgc I (ts:=[11]) (ys:=[.agg [.sl 1 (E cD T),.sl 1 (E cTs U)]]) (jZ Cd.i_newOffice_k.o) rfl rfl λus h3 hr=>?_))
 .simp -dsimp only[go_sem,cTs,cS]
  first|(simp[Vs.LeL,Vs.look,aA];done)
 refine(aAN T U qs qt Y.dom Y.env h3 hr).mono ?_;rintro e0 w4 ⟨tv0,sv0,rfl,hg,m,hm,hon⟩;obtain⟨L,J,rfl,rfl⟩:=hm.sls;refine⟨_,rfl,?_⟩;have qx:C1.w0.heap.size<=w3.heap.size:=Y.size;have O:=(Y.grow hg (D:=m.D) (λb H=>⟨hon b H,hm.lt b H⟩) [(1,.sl 9 (E cS fl)),(4,.ptr (.t 4 0) 0 0)] (fvC ⟨rfl,.inr rfl⟩ (fvC ⟨rfl,.inl rfl⟩ fvN))).putR (d:=12) (by rw[I,Cd.i_runFlow_k.n];omega) (r:=.agg [.v (slW L),.v (slW J)]) (aDX _ _)
 letI I5:=Vs.keepE (λb=>S3 b∨m.D b) w4
 refine O.rgN I 2 (τ:=⟨[(1,.sl 9 (E cS fl)),(4,.ptr (.t 4 0) 0 0),(6,.ptr (.t 6 0) 0 0)],[(.t 4 0,.var [.v (.slice none 0 0),.v (.slice none 0 0)] false),(.t 6 0,.var [.v (slW L),.v (slW J)] false)]⟩) ?_ λa5 w5 S5 p5 hq=>RgL.nil ?_
 .simp -dsimp only[go_sem,cTs,cS]
  first|(simp[Vs.LeL,Vs.look,aA];done)
 have ha:=hm.past (S:=λb=>S3 b∨m.D b) (λb H=>.inr H) p5;have Z:∀b,m.D b->S5 b∧C1.w0.heap.size<=b:=λb H=>⟨p5.sub b (.inr H),by have:=hon b H;omega⟩;refine At.seq (?_);refine hq.goT dM I 1 _ (τ:=⟨[(1,.sl 9 (E cS fl)),(4,.ptr (.t 4 0) 0 0),(6,.ptr (.t 6 0) 0 0),(13,.sl 9 (E cS fl)),(14,.v (.int .i64 (fl.length:Nat))),(15,.v (.int .i64 (0:Nat)))],[(.t 4 0,.var [.v (.slice none 0 0),.v (.slice none 0 0)] false),(.t 6 0,.var [.v (slW L),.v (slW J)] false)]⟩) (λC hC=>?_) λa6 w6 S6 p6 hs=>?_
 .simp -dsimp only[go_sem,h4,cTs,cS]
  repeat' first|simp -dsimp only[go_sem,h4,cTs,cS]|apply Br.mk<;>intro h<;>try simp -dsimp only[h]|refine aC ?_|fail
  all_goals first|(simp[Vs.LeL,Vs.look,aA];done)|exact⟨by simp[Vs.LeL,Vs.look,aA],trivial⟩|omega|(and_intros<;>first|trivial|(simp[Vs.LeL,Vs.look,aA];done)|omega)
 let IV:Nat->Act->World->Prop:=λnn a' w'=>∃(i:Nat) (o':Off) (L J:Sl) (m:OM) (S':Nat->Prop) (I':Vs.Envs),nn=fl.length-i∧i<=fl.length∧okO wd o'∧aCC ⟨T,U⟩ fl i o'∧Vs.Pt I' C1 (⟨[(1,.sl 9 (E cS fl)),(4,.ptr (.t 4 0) 0 0),(6,.ptr (.t 6 0) 0 0),(13,.sl 9 (E cS fl)),(14,.v (.int .i64 (fl.length:Nat))),(15,.v (.int .i64 (i:Nat)))],[(.t 4 0,.var [.v (.slice none 0 0),.v (.slice none 0 0)] false),(.t 6 0,.var [.v (slW L),.v (slW J)] false)]⟩:St) a' w' S'∧OfM w' o' (slW L) (slW J) m∧∀b,m.D b->S' b∧C1.w0.heap.size<=b
 refine At.block (At.loop IV (λnn a1 w1 hI=>?_) (n:=fl.length) ⟨0,⟨T,U⟩,L,J,m,S6,_,by omega,by omega,ho,qr,hs,ha.past (λb H=>(Z b H).1) p6,λb H=>⟨p6.sub b (Z b H).1,(Z b H).2⟩⟩);clear hs p6 Z ha hq p5 I5 O hon hm hg hr h3 Y p3 h5 p1 qx;clear m L J;obtain⟨i,o',L,J,m,S1,I1,hn,hi,qc,hy,h5,hm,Z⟩:=hI;refine h5.goT dM I 1 _ (τ:=⟨[(16,.v (.bool (decide ((i:Nat)<(fl.length:Nat))))),(1,.sl 9 (E cS fl)),(4,.ptr (.t 4 0) 0 0),(6,.ptr (.t 6 0) 0 0),(13,.sl 9 (E cS fl)),(14,.v (.int .i64 (fl.length:Nat))),(15,.v (.int .i64 (i:Nat)))],[(.t 4 0,.var [.v (.slice none 0 0),.v (.slice none 0 0)] false),(.t 6 0,.var [.v (slW L),.v (slW J)] false)]⟩) (λC hC=>?_) λa2 w2 S2 p2 qd=>?_
 .simp -dsimp only[go_sem,cTs,cS]
  repeat' first|simp -dsimp only[go_sem,cTs,cS]|apply Br.mk<;>intro h<;>try simp -dsimp only[h]|refine aC ?_|fail
  all_goals first|(simp[Vs.LeL,Vs.look,aA];done)|exact⟨by simp[Vs.LeL,Vs.look,aA],trivial⟩|omega|(and_intros<;>first|trivial|(simp[Vs.LeL,Vs.look,aA];done)|omega)
 have h9:=hm.past (λb H=>(Z b H).1) p2;have hk:∀b,m.D b->S2 b∧C1.w0.heap.size<=b:=λb H=>⟨p2.sub b (Z b H).1,(Z b H).2⟩;refine At.seq (qd.cond (b:=decide ((i:Nat)<(fl.length:Nat))) rfl (λht=>At.skip ?_) (λhf=>At.exit ?_))
 .have hx:i<fl.length:=BJ ht;have qw:=aG hx qp;have gx:(E cS fl).getD i []=cS fl[i]:=aN hx;have qk:=qy _ (Aa hx);refine At.seq (At.block ?_);refine qd.goT dM I 1 _ (τ:=⟨[(8,.ptr (.t 8 0) 0 0),(1,.sl 9 (E cS fl)),(4,.ptr (.t 4 0) 0 0),(6,.ptr (.t 6 0) 0 0),(7,.v (.int .i64 (i:Nat))),(13,.sl 9 (E cS fl)),(14,.v (.int .i64 (fl.length:Nat))),(15,.v (.int .i64 (i:Nat)))],[(.t 8 0,.var (cS fl[i]) false),(.t 4 0,.var [.v (.slice none 0 0),.v (.slice none 0 0)] false),(.t 6 0,.var [.v (slW L),.v (slW J)] false)]⟩) (λC hC=>?_) λa3 w3 S3 p3 Y=>?_
  .simp -dsimp only[go_sem,h4,gx,cTs,cS]
   repeat' first|simp -dsimp only[go_sem,h4,gx,cTs,cS]|apply Br.mk<;>intro h<;>try simp -dsimp only[h]|refine aC ?_|fail
   all_goals first|(simp[Vs.LeL,Vs.look,aA];done)|exact⟨by simp[Vs.LeL,Vs.look,aA],trivial⟩|omega|(and_intros<;>first|trivial|(simp[Vs.LeL,Vs.look,aA];done)|omega)
  refine At.seq (At.rg (Y.rgN I 2 (τ:=⟨[(21,.agg [.v (slW L),.v (slW J)]),(22,.agg (cS fl[i])),(1,.sl 9 (E cS fl)),(4,.ptr (.t 4 0) 0 0),(6,.ptr (.t 6 0) 0 0),(7,.v (.int .i64 (i:Nat))),(13,.sl 9 (E cS fl)),(14,.v (.int .i64 (fl.length:Nat))),(15,.v (.int .i64 (i:Nat)))],[(.t 4 0,.var [.v (.slice none 0 0),.v (.slice none 0 0)] false),(.t 6 0,.var [.v (slW L),.v (slW J)] false)]⟩) ?_ λa4 w4 S4 p4 O=>O.rgc I (ts:=[21,22]) (ys:=[.agg [.v (slW L),.v (slW J)],.agg (cS fl[i])]) (jZ Cd.i_doStep_k.o) rfl rfl λus h3 hr=>?_))
  .simp -dsimp only[go_sem,cTs,cS]
   first|(simp[Vs.LeL,Vs.look,aA];done)
  have ql:=p3.trans p4;have qa:=h9.past (λb H=>(hk b H).1) ql;have qh:∀b,m.D b->S4 b∧C1.w0.heap.size<=b:=λb H=>⟨ql.sub b (hk b H).1,(hk b H).2⟩;have qu:us.getD 0 undef=.agg #[slW L,slW J]:=gX (hr 0 (by simp))
  have hh:∀j,j<2->RC S4 w4 (([.agg [.sl 1 (E cD o'.trays),.sl 1 (E cTs o'.totals)],.agg (cS fl[i])]:List AV).getD j .junk) (us.getD j undef):=λj hj=>by
   match j,hj with
   |0,_=>rw[qu];exact qa.rd.mono (λb H=>(qh b H).1) λ_ _=>rfl
   |1,_=>exact hr 1 (by simp)
  by_cases hd:dsC fl[i] o'=0
  .refine(aJB fl[i] qk o'.trays o'.totals wd qc hd O.dom O.env h3 hh).mono ?_;rintro e0 w5 ⟨tv0,sv0,rfl,hg5,m5,ha,hon5⟩;obtain⟨hw,hv,rfl,rfl⟩:=ha.sls;refine⟨_,rfl,?_⟩
   have hq:=(O.grow hg5 (D:=m5.D) (λb H=>⟨hon5 b H,ha.lt b H⟩) [(1,.sl 9 (E cS fl)),(4,.ptr (.t 4 0) 0 0),(6,.ptr (.t 6 0) 0 0),(7,.v (.int .i64 (i:Nat))),(13,.sl 9 (E cS fl)),(14,.v (.int .i64 (fl.length:Nat))),(15,.v (.int .i64 (i:Nat)))] (λp hp=>by
       simp only[Ap,Ao,AX] at hp;rcases hp with rfl|rfl|rfl|rfl|rfl|rfl|rfl
       all_goals first|exact⟨rfl,.inl rfl⟩|exact⟨rfl,.inr rfl⟩)).putR (d:=23) (by rw[I,Cd.i_runFlow_k.n];omega) (r:=.tup [.agg [.v (slW hw),.v (slW hv)],.v (.int .i64 0)]) (aKB _ _ _)
   have q2:C1.w0.heap.size<=w4.heap.size:=O.size
   letI I5:=Vs.keepE (λb=>S4 b∨m5.D b) w5
   refine hq.rgN I 6 (τ:=⟨[(9,.ptr (.t 9 0) 0 0),(10,.v (.int .i64 0)),(1,.sl 9 (E cS fl)),(4,.ptr (.t 4 0) 0 0),(6,.ptr (.t 6 0) 0 0),(7,.v (.int .i64 (i:Nat))),(13,.sl 9 (E cS fl)),(14,.v (.int .i64 (fl.length:Nat))),(15,.v (.int .i64 (i:Nat)))],[(.t 9 0,.var [.v (slW hw),.v (slW hv)] false),(.t 4 0,.var [.v (.slice none 0 0),.v (.slice none 0 0)] false),(.t 6 0,.var [.v (slW L),.v (slW J)] false)]⟩) ?_ λa6 w6 S6 p6 hs=>RgL.nil ?_
   .simp -dsimp only[go_sem,cTs,cS]
    first|(simp[Vs.LeL,Vs.look,aA];done)
   refine hs.goT dM I 1 _ (τ:=⟨[(9,.ptr (.t 9 0) 0 0),(1,.sl 9 (E cS fl)),(4,.ptr (.t 4 0) 0 0),(6,.ptr (.t 6 0) 0 0),(7,.v (.int .i64 (i:Nat))),(13,.sl 9 (E cS fl)),(14,.v (.int .i64 (fl.length:Nat))),(15,.v (.int .i64 (i:Nat)))],[(.t 9 0,.var [.v (slW hw),.v (slW hv)] false),(.t 4 0,.var [.v (.slice none 0 0),.v (.slice none 0 0)] false),(.t 6 0,.var [.v (slW L),.v (slW J)] false)]⟩) (λC hC=>?_) λa7 w7 S7 p7 h6=>?_
   .simp -dsimp only[go_sem,cTs,cS]
    repeat' first|simp -dsimp only[go_sem,cTs,cS]|apply Br.mk<;>intro h<;>try simp -dsimp only[h]|refine aC ?_|fail
    all_goals first|(simp[Vs.LeL,Vs.look,aA];done)|exact⟨by simp[Vs.LeL,Vs.look,aA],trivial⟩|omega|(and_intros<;>first|trivial|(simp[Vs.LeL,Vs.look,aA];done)|omega)
   refine At.rg (h6.rgN I 2 (τ:=⟨[(1,.sl 9 (E cS fl)),(4,.ptr (.t 4 0) 0 0),(6,.ptr (.t 6 0) 0 0),(13,.sl 9 (E cS fl)),(14,.v (.int .i64 (fl.length:Nat))),(15,.v (.int .i64 (i:Nat)))],[(.t 4 0,.var [.v (.slice none 0 0),.v (.slice none 0 0)] false),(.t 6 0,.var [.v (slW hw),.v (slW hv)] false)]⟩) ?_ λa8 w8 S8 p8 h7=>RgL.nil ?_)
   .simp -dsimp only[go_sem,cTs,cS]
    first|(simp[Vs.LeL,Vs.look,aA];done)
   show Vs.At Tryz.prog Tryz.f64.ntmps (aW Tryz.prog) (.region [⟨some 31,.bin .add (.tmp 15) (.const (.int .i64 (1))),none⟩,⟨some 15,.mv (.tmp 31),none⟩] _ []) _ a8 w8
   refine At.rg (h7.rgN I 2 (τ:=⟨[(1,.sl 9 (E cS fl)),(4,.ptr (.t 4 0) 0 0),(6,.ptr (.t 6 0) 0 0),(13,.sl 9 (E cS fl)),(14,.v (.int .i64 (fl.length:Nat))),(15,.v (.int .i64 (i+1:Nat)))],[(.t 4 0,.var [.v (.slice none 0 0),.v (.slice none 0 0)] false),(.t 6 0,.var [.v (slW hw),.v (slW hv)] false)]⟩) ?_ λa9 w9 S9 p9 qq=>RgL.nil ?_)
   .simp -dsimp only[go_sem,qw,cTs,cS]
    first|(simp[Vs.LeL,Vs.look,aA];done)
   have qm:=((p6.trans p7).trans p8).trans p9;exact⟨fl.length-(i+1),by omega,i+1,stO fl[i] o',hw,hv,m5,S9,_,rfl,by omega,aIw qc hd,aBl hx hy hd,qq,ha.past (S:=λb=>S4 b∨m5.D b) (λb H=>.inr H) qm,λb H=>⟨qm.sub b (.inr H),by have:=hon5 b H;omega⟩⟩
  .have DS:=aN5 fl[i] qk o' wd qc hd;have e0:(dsC fl[i] o' != 0)=true:=by simp[hd]
   have qf:=uX hx hy hd;rw[qf];generalize dsC fl[i] o'=c at DS e0;refine(DS.calls0 rfl O.dom O.env h3 hh).mono ?_;rintro e w5 ⟨v,S',rfl,hg5,hv5⟩;have qj:=aKx hv5;subst qj;refine⟨_,rfl,?_⟩
   have hq:=(O.grow hg5 (D:=λ_=>False) (λb H=>H.elim) [(1,.sl 9 (E cS fl)),(4,.ptr (.t 4 0) 0 0),(6,.ptr (.t 6 0) 0 0),(7,.v (.int .i64 (i:Nat))),(13,.sl 9 (E cS fl)),(14,.v (.int .i64 (fl.length:Nat))),(15,.v (.int .i64 (i:Nat)))] (λp hp=>by
       simp only[Ap,Ao,AX] at hp;rcases hp with rfl|rfl|rfl|rfl|rfl|rfl|rfl
       all_goals first|exact⟨rfl,.inl rfl⟩|exact⟨rfl,.inr rfl⟩)).putR (d:=23) (by rw[I,Cd.i_runFlow_k.n];omega) (r:=.tup [.agg [.v (.slice none 0 0),.v (.slice none 0 0)],.v (.int .i64 c)]) (aKB _ _ _)
   have qz:Vs.Past S4 w4 (λb=>S4 b∨False) w5:=Vs.Past.grow hg5 O.dom
   letI I5:=Vs.keepE (λb=>S4 b∨False) w5
   refine hq.rgN I 6 (τ:=⟨[(10,.v (.int .i64 c)),(1,.sl 9 (E cS fl)),(4,.ptr (.t 4 0) 0 0),(6,.ptr (.t 6 0) 0 0),(7,.v (.int .i64 (i:Nat))),(13,.sl 9 (E cS fl)),(14,.v (.int .i64 (fl.length:Nat))),(15,.v (.int .i64 (i:Nat)))],[(.t 9 0,.var [.v (.slice none 0 0),.v (.slice none 0 0)] false),(.t 4 0,.var [.v (.slice none 0 0),.v (.slice none 0 0)] false),(.t 6 0,.var [.v (slW L),.v (slW J)] false)]⟩) ?_ λa6 w6 S6 p6 hs=>RgL.nil ?_
   .simp -dsimp only[go_sem,cTs,cS]
    first|(simp[Vs.LeL,Vs.look,aA];done)
   refine At.seq (At.seq (At.rg (hs.rgN I 2 (τ:=⟨[(27,.v (.bool true)),(1,.sl 9 (E cS fl)),(4,.ptr (.t 4 0) 0 0),(6,.ptr (.t 6 0) 0 0),(7,.v (.int .i64 (i:Nat))),(13,.sl 9 (E cS fl)),(14,.v (.int .i64 (fl.length:Nat))),(15,.v (.int .i64 (i:Nat)))],[(.t 4 0,.var [.v (.slice none 0 0),.v (.slice none 0 0)] false),(.t 6 0,.var [.v (slW L),.v (slW J)] false)]⟩) ?_ λa7 w7 S7 p7 h6=>RgL.nil ?_)))
   .simp -dsimp only[go_sem,e0,cTs,cS]
    first|(simp[Vs.LeL,Vs.look,aA];done)
   refine h6.cond rfl (λ_=>?_) λh=>(by cases h);refine At.seq (At.rg (h6.rgN I 4 (τ:=⟨[(4,.ptr (.t 4 0) 0 0),(5,.v (.int .i64 (i:Nat)))],[(.t 4 0,.var [.v (slW L),.v (slW J)] false)]⟩) ?_ λa8 w8 S8 p8 h7=>RgL.nil ?_))
   .simp -dsimp only[go_sem,cTs,cS]
    first|(simp[Vs.LeL,Vs.look,aA];done)
   obtain ⟨qb,u,ρ,κ,qe,qg,_⟩:=h7.resX (fn:=Tryz.f64) (x:=.tup [.agg [.v (slW L),.v (slW J)],.v (.int .i64 (i:Nat))]) (by
     show dQ Tryz.prog _ _ [_,_]
     simp -dsimp only[go_sem,cTs,cS]
     try simp[dU])
   have hu:=aFx qg;subst hu;refine At.ret ?_
   try simp only[Exit.inBlock,Exit.then]
   refine⟨by first|exact .inl rfl|exact .inl trivial,qb,_,qe,slW L,slW J,rfl,h8 ▸ h7.out,m,qa.past (λb H=>(qh b H).1) (((qz.trans p6).trans p7).trans p8),λb H=>h8 ▸ (Z b H).2⟩
 .have qo:i=fl.length:=by have:=BQ hf;omega
  subst qo;simp only[Exit.then,Exit.inBlock,Bj];rw[aCB hy];have SZ:=aNv fl;refine qd.goT dM I 1 _ (τ:=⟨[(4,.ptr (.t 4 0) 0 0),(5,.v (.int .i64 (fl.length:Nat)))],[(.t 4 0,.var [.v (slW L),.v (slW J)] false)]⟩) (λC hC=>?_) λa3 w3 S3 p3 Y=>?_
  .simp -dsimp only[go_sem,cTs,cS]
   repeat' first|simp -dsimp only[go_sem,cTs,cS]|apply Br.mk<;>intro h<;>try simp -dsimp only[h]|refine aB.c (by first|exact SZ) ?_|refine aC ?_|fail
   all_goals first|(simp[Vs.LeL,Vs.look,aA];done)|exact⟨by simp[Vs.LeL,Vs.look,aA],trivial⟩|omega|(and_intros<;>first|trivial|(simp[Vs.LeL,Vs.look,aA];done)|omega)
  obtain ⟨qb,u,ρ,κ,qe,qg,_⟩:=Y.resX (fn:=Tryz.f64) (x:=.tup [.agg [.v (slW L),.v (slW J)],.v (.int .i64 (fl.length:Nat))]) (by
    show dQ Tryz.prog _ _ [_,_]
    simp -dsimp only[go_sem,cTs,cS]
    try simp[dU])
  have hu:=aFx qg;subst hu;refine At.ret ?_
  try simp only[Exit.inBlock,Exit.then]
  refine⟨by first|exact .inl rfl|exact .inl trivial,qb,_,qe,slW L,slW J,rfl,h8 ▸ Y.out,m,h9.past (λb H=>(hk b H).1) p3,λb H=>h8 ▸ (Z b H).2⟩
end Go.Proofs.YtkgeiaideklmoaaGreat
