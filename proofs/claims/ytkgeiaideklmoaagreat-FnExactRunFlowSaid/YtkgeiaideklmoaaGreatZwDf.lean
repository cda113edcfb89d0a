/- The deck that arises by a step, in memory of its own. -/
import Derived.Test.YtkgeiaideklmoaaGreatZwDe
import Derived.Test.YtkgeiaideklmoaaGreatZwVm
set_option linter.all false
set_option maxHeartbeats 8000000
namespace Go.Proofs.YtkgeiaideklmoaaGreat
open Go.Vs
variable [Vs.Envs]
attribute [local irreducible] Vs.Fn bA mgC iM mtC iP flt dI oC mat bK aO bL bM l03 chB rk cd3 chI stp aP
attribute [local go_sem] Bh Bz Int.reduceBEq Int.reduceBNe cC cFd Af Ag Al Aq Ae Ai Ac Ak Ab Ah Am aH cO cD cP in
theorem aJC (x:Stp) (h7:x.text.size<=1048576) (T:List (List (List Int))) (hs:∀d,d∈T->aZ d) (qk:T.length<=1048576) (iA:0<=x.a∧x.a<(T.length:Int)) (iB:0<=x.b∧x.b<(T.length:Int)) (TV:List (List Tot)) (h0:dkC x (tr T x.a) (tr T x.b)=0) {S:Nat->Prop}{w:World}{vs:Array Value} (hS:∀b,S b->b<w.heap.size) (he:Env S w) (h4:vs.size=2) (hq:∀j,j<2->RC S w (([.agg [.sl 1 (E cD T),.sl 1 (E cTs TV)],.agg (cS x)]:List AV).getD j .junk) (vs.getD j undef)):Calls Tryz.prog F.qO vs w (aBd w ((dkL x (tr T x.a) (tr T x.b)).map (E cI))):=by
 have sa:=hs _ (gJ iA);have sb:=hs _ (gJ iB);have gA:=iK iA;have O:=iK iB;have ql:x.a.toNat<T.length:=by omega
 have qm:x.b.toNat<T.length:=by omega
 obtain⟨h1,h2,_⟩:=Cd.i_deckOf_k.o;obtain⟨h8,L,hc⟩:=AY.1 h2;have hz:(Tryz.f92.body.map (zB Tryz.f92.ntmps (aW Tryz.prog)))=some true:=by kernel_rfl
 rw[L] at hz;have qj:=bB Tryz.mixed;refine Vs.Pt.calls (dr:=aW Tryz.prog) (ac:=Cd.qO) h1 L hc (by simpa using hz) (args:=[.agg [.sl 1 (E cD T),.sl 1 (E cTs TV)],.agg (cS x)]) (by rw[Cd.i_deckOf_k.n];exact Bc rfl) hS he h4 hq λC1 a H U qi hp=>?_;unfold Cd.qO;refine hp.goT dM H 2 _ (τ:=⟨[(3,.ptr (.t 3 0) 0 0),(6,.sl 1 (E cC (tr T x.a))),(7,.sl 1 (E cC (tr T x.b)))],[(.t 3 0,.var (cS x) false)]⟩) (λC hC=>?_) λa1 w1 S1 p1 hw=>?_
 .simp -dsimp only[go_sem,cS,cTs,gA,O]
  repeat' first|simp -dsimp only[go_sem,cS,cTs,gA,O]|apply Br.mk<;>intro h<;>try simp -dsimp only[h]|refine aC ?_|fail
  all_goals first|(simp[Vs.LeL,Vs.look,aA];done)|exact⟨by simp[Vs.LeL,Vs.look,aA],trivial⟩|omega
 refine At.seq (At.seq (At.rg (hw.rgN H 2 (τ:=⟨[(23,.v (.int .i64 x.kind)),(3,.ptr (.t 3 0) 0 0),(6,.sl 1 (E cC (tr T x.a))),(7,.sl 1 (E cC (tr T x.b)))],[(.t 3 0,.var (cS x) false)]⟩) ?_ λa2 w2 S2 p2 J=>RgL.nil ?_)))
 .simp -dsimp only[go_sem,cS,cTs,gA,O]
  first|(simp[Vs.LeL,Vs.look,aA];done)
 refine At.block ?_;refine At.seq (At.rg (J.rgN H 2 (τ:=⟨[(24,.v (.bool (x.kind==1))),(23,.v (.int .i64 x.kind)),(3,.ptr (.t 3 0) 0 0),(6,.sl 1 (E cC (tr T x.a))),(7,.sl 1 (E cC (tr T x.b)))],[(.t 3 0,.var (cS x) false)]⟩) ?_ λqe qr qa qn hd=>RgL.nil ?_))
 .simp -dsimp only[go_sem,cS,cTs,gA,O]
  first|(simp[Vs.LeL,Vs.look,aA];done)
 by_cases h1:x.kind=1
 .refine hd.cond rfl (λ_=>?_) λh=>absurd h (by simp[h1]);have hk:bA x.f0 x.f1 (tr T x.a)=0:=by rw[←h0];simp[dkC,h1]
  rw[show dkL x (tr T x.a) (tr T x.b)=iP x.f0 x.f1 (tr T x.a) by simp[dkL,h1]];refine At.seq (At.rg (hd.rgN H 3 (τ:=⟨[(26,.sl 1 (E cC (tr T x.a))),(28,.agg (cFd x.f0 x.f1))],[(.t 3 0,.var (cS x) false)]⟩) ?_ λa2 w2 S2 p2 J=>J.rgc H (ts:=[26,28]) (ys:=[.sl 1 (E cC (tr T x.a)),.agg (cFd x.f0 x.f1)]) (jZ Cd.i_SortedBy_k.o) rfl rfl λus Y hr=>?_))
  .simp -dsimp only[go_sem,cS,cTs,gA,O];simp[Vs.LeL,Vs.look,aA]
  refine(aGy (tr T x.a) x.f0 x.f1 sa hk J.dom J.env Y hr).mono ?_;rintro e w3 ⟨v,rfl,hg,m,hd3,hn⟩;refine⟨_,rfl,?_⟩;have Z:=(J.grow hg (D:=m.D) (λb L=>⟨hn b L,hd3.lt b L⟩) [] (λp hp=>by cases hp)).putR (d:=29) (by rw[H,Cd.i_deckOf_k.n];omega) (r:=.tup [.v v,.v (.int .i64 0)]) (aAt _ _)
  letI I3:=Vs.keepE (λb=>S2 b∨m.D b) w3
  refine Z.rgN H 4 (τ:=⟨[(4,.v v),(5,.v (.int .i64 0))],[]⟩) ?_ λa5 w5 S5 p5 ha=>RgL.nil ?_
  .simp -dsimp only[go_sem,cS,cTs,gA,O];simp[Vs.LeL,Vs.look,aA]
  have I:=ha.retDk (fn:=Tryz.f92) U hd3 (λb L=>by have:=hn b L;have h9:=J.size;rw[U] at h9;omega) (λb L=>.inr L) p5 (by
    show dQ Tryz.prog _ _ [_,_]
    simp[dQ,qX,Vs.look,dU])
  refine At.ret ?_
  first|exact⟨.inl rfl,I⟩|(simp only[Exit.inBlock,Exit.then];exact⟨.inl trivial,I⟩)
 refine hd.cond rfl (λh=>absurd h (by simp[h1])) λ_=>?_;refine At.seq (At.rg (hd.rgN H 2 (τ:=⟨[(32,.v (.bool (x.kind==2))),(23,.v (.int .i64 x.kind)),(3,.ptr (.t 3 0) 0 0),(6,.sl 1 (E cC (tr T x.a))),(7,.sl 1 (E cC (tr T x.b)))],[(.t 3 0,.var (cS x) false)]⟩) ?_ λqf qs qb qo hf=>RgL.nil ?_))
 .simp -dsimp only[go_sem,cS,cTs,gA,O]
  first|(simp[Vs.LeL,Vs.look,aA];done)
 by_cases h2:x.kind=2
 .refine hf.cond rfl (λ_=>?_) λh=>absurd h (by simp[h2]);have hk:mgC x.f0 x.f1 (tr T x.a) (tr T x.b)=0:=by rw[←h0];simp[dkC,h2]
  rw[show dkL x (tr T x.a) (tr T x.b)=iP x.f0 x.f1 (tr T x.a++tr T x.b) by simp[dkL,h2]];refine At.seq (At.rg (hf.rgN H 4 (τ:=⟨[(34,.sl 1 (E cC (tr T x.a))),(35,.sl 1 (E cC (tr T x.b))),(37,.agg (cFd x.f0 x.f1))],[(.t 3 0,.var (cS x) false)]⟩) ?_ λa2 w2 S2 p2 J=>J.rgc H (ts:=[34,35,37]) (ys:=[.sl 1 (E cC (tr T x.a)),.sl 1 (E cC (tr T x.b)),.agg (cFd x.f0 x.f1)]) (jZ Cd.i_MergeDecks_k.o) rfl rfl λus Y hr=>?_))
  .simp -dsimp only[go_sem,cS,cTs,gA,O];simp[Vs.LeL,Vs.look,aA]
  refine(aDJ (tr T x.a) (tr T x.b) x.f0 x.f1 sa sb hk J.dom J.env Y hr).mono ?_;rintro e w3 ⟨v,rfl,hg,m,hd3,hn⟩;refine⟨_,rfl,?_⟩;have Z:=(J.grow hg (D:=m.D) (λb L=>⟨hn b L,hd3.lt b L⟩) [] (λp hp=>by cases hp)).putR (d:=38) (by rw[H,Cd.i_deckOf_k.n];omega) (r:=.tup [.v v,.v (.int .i64 0)]) (aAt _ _)
  letI I3:=Vs.keepE (λb=>S2 b∨m.D b) w3
  refine Z.rgN H 4 (τ:=⟨[(4,.v v),(5,.v (.int .i64 0))],[]⟩) ?_ λa5 w5 S5 p5 ha=>RgL.nil ?_
  .simp -dsimp only[go_sem,cS,cTs,gA,O];simp[Vs.LeL,Vs.look,aA]
  have I:=ha.retDk (fn:=Tryz.f92) U hd3 (λb L=>by have:=hn b L;have h9:=J.size;rw[U] at h9;omega) (λb L=>.inr L) p5 (by
    show dQ Tryz.prog _ _ [_,_]
    simp[dQ,qX,Vs.look,dU])
  refine At.ret ?_
  first|exact⟨.inl rfl,I⟩|(simp only[Exit.inBlock,Exit.then];exact⟨.inl trivial,I⟩)
 refine hf.cond rfl (λh=>absurd h (by simp[h2])) λ_=>?_;refine At.seq (At.rg (hf.rgN H 2 (τ:=⟨[(41,.v (.bool (x.kind==5))),(23,.v (.int .i64 x.kind)),(3,.ptr (.t 3 0) 0 0),(6,.sl 1 (E cC (tr T x.a))),(7,.sl 1 (E cC (tr T x.b)))],[(.t 3 0,.var (cS x) false)]⟩) ?_ λqg qt qc qp hh=>RgL.nil ?_))
 .simp -dsimp only[go_sem,cS,cTs,gA,O]
  first|(simp[Vs.LeL,Vs.look,aA];done)
 by_cases h5:x.kind=5
 .refine hh.cond rfl (λ_=>?_) λh=>absurd h (by simp[h5]);have hk:iM x.f0 x.f1 x.text (tr T x.a)=0:=by rw[←h0];simp[dkC,h5]
  rw[show dkL x (tr T x.a) (tr T x.b)=flt (dI x.f0 x.f1 x.text) (tr T x.a) by simp[dkL,h5]];refine At.seq (At.rg (hh.rgN H 5 (τ:=⟨[(43,.sl 1 (E cC (tr T x.a))),(45,.agg (cFd x.f0 x.f1)),(47,.v (.string x.text))],[(.t 3 0,.var (cS x) false)]⟩) ?_ λa2 w2 S2 p2 J=>J.rgc H (ts:=[43,45,47]) (ys:=[.sl 1 (E cC (tr T x.a)),.agg (cFd x.f0 x.f1),.v (.string x.text)]) (jZ Cd.i_SelectEqual_k.o) rfl rfl λus Y hr=>?_))
  .simp -dsimp only[go_sem,cS,cTs,gA,O];simp[Vs.LeL,Vs.look,aA]
  refine(aCz (tr T x.a) x.f0 x.f1 x.text sa h7 hk J.dom J.env Y hr).mono ?_;rintro e w3 ⟨v,rfl,hg,m,hd3,hn⟩;refine⟨_,rfl,?_⟩;have Z:=(J.grow hg (D:=m.D) (λb L=>⟨hn b L,hd3.lt b L⟩) [] (λp hp=>by cases hp)).putR (d:=48) (by rw[H,Cd.i_deckOf_k.n];omega) (r:=.tup [.v v,.v (.int .i64 0)]) (aAt _ _)
  letI I3:=Vs.keepE (λb=>S2 b∨m.D b) w3
  refine Z.rgN H 4 (τ:=⟨[(4,.v v),(5,.v (.int .i64 0))],[]⟩) ?_ λa5 w5 S5 p5 ha=>RgL.nil ?_
  .simp -dsimp only[go_sem,cS,cTs,gA,O];simp[Vs.LeL,Vs.look,aA]
  have I:=ha.retDk (fn:=Tryz.f92) U hd3 (λb L=>by have:=hn b L;have h9:=J.size;rw[U] at h9;omega) (λb L=>.inr L) p5 (by
    show dQ Tryz.prog _ _ [_,_]
    simp[dQ,qX,Vs.look,dU])
  refine At.ret ?_
  first|exact⟨.inl rfl,I⟩|(simp only[Exit.inBlock,Exit.then];exact⟨.inl trivial,I⟩)
 refine hh.cond rfl (λh=>absurd h (by simp[h5])) λ_=>?_;refine At.seq (At.rg (hh.rgN H 2 (τ:=⟨[(51,.v (.bool (x.kind==6))),(3,.ptr (.t 3 0) 0 0),(6,.sl 1 (E cC (tr T x.a))),(7,.sl 1 (E cC (tr T x.b)))],[(.t 3 0,.var (cS x) false)]⟩) ?_ λqh qu qd qq hl=>RgL.nil ?_))
 .simp -dsimp only[go_sem,cS,cTs,gA,O]
  first|(simp[Vs.LeL,Vs.look,aA];done)
 by_cases h6:x.kind=6
 .refine hl.cond rfl (λ_=>?_) λh=>absurd h (by simp[h6]);have hk:bA x.f0 x.f1 (tr T x.a)=0:=by rw[←h0];simp[dkC,h6]
  rw[show dkL x (tr T x.a) (tr T x.b)=oC x.f0 x.f1 (tr T x.a) by simp[dkL,h6]];refine At.seq (At.rg (hl.rgN H 3 (τ:=⟨[(53,.sl 1 (E cC (tr T x.a))),(55,.agg (cFd x.f0 x.f1))],[(.t 3 0,.var (cS x) false)]⟩) ?_ λa2 w2 S2 p2 J=>J.rgc H (ts:=[53,55]) (ys:=[.sl 1 (E cC (tr T x.a)),.agg (cFd x.f0 x.f1)]) (jZ Cd.i_FirstOfGroups_k.o) rfl rfl λus Y hr=>?_))
  .simp -dsimp only[go_sem,cS,cTs,gA,O];simp[Vs.LeL,Vs.look,aA]
  refine(aBw (tr T x.a) x.f0 x.f1 sa hk J.dom J.env Y hr).mono ?_;rintro e w3 ⟨v,rfl,hg,m,hd3,hn⟩;refine⟨_,rfl,?_⟩;have Z:=(J.grow hg (D:=m.D) (λb L=>⟨hn b L,hd3.lt b L⟩) [] (λp hp=>by cases hp)).putR (d:=56) (by rw[H,Cd.i_deckOf_k.n];omega) (r:=.tup [.v v,.v (.int .i64 0)]) (aAt _ _)
  letI I3:=Vs.keepE (λb=>S2 b∨m.D b) w3
  refine Z.rgN H 4 (τ:=⟨[(4,.v v),(5,.v (.int .i64 0))],[]⟩) ?_ λa5 w5 S5 p5 ha=>RgL.nil ?_
  .simp -dsimp only[go_sem,cS,cTs,gA,O];simp[Vs.LeL,Vs.look,aA]
  have I:=ha.retDk (fn:=Tryz.f92) U hd3 (λb L=>by have:=hn b L;have h9:=J.size;rw[U] at h9;omega) (λb L=>.inr L) p5 (by
    show dQ Tryz.prog _ _ [_,_]
    simp[dQ,qX,Vs.look,dU])
  refine At.ret ?_
  first|exact⟨.inl rfl,I⟩|(simp only[Exit.inBlock,Exit.then];exact⟨.inl trivial,I⟩)
 refine hl.cond rfl (λh=>absurd h (by simp[h6])) λ_=>?_;refine At.skip ?_;have hk:mtC x.f0 x.f1 (tr T x.a) (tr T x.b)=0:=by rw[←h0];simp[dkC,h1,h2,h5,h6]
 show Vs.At Tryz.prog Tryz.f92.ntmps (aW Tryz.prog) (.seq (.region _ _ _) _) _ _ _
 refine At.seq (At.rg (hl.rgN H 4 (τ:=⟨[(60,.sl 1 (E cC (tr T x.a))),(61,.sl 1 (E cC (tr T x.b))),(63,.agg (cFd x.f0 x.f1)),(3,.ptr (.t 3 0) 0 0)],[(.t 3 0,.var (cS x) false)]⟩) ?_ λam wm Sm pm hm=>hm.rgc H (ts:=[60,61,63]) (ys:=[.sl 1 (E cC (tr T x.a)),.sl 1 (E cC (tr T x.b)),.agg (cFd x.f0 x.f1)]) (jZ Cd.i_MatchDecks_k.o) rfl rfl λus Y hr=>?_))
 .simp -dsimp only[go_sem,cS,cTs,gA,O]
  first|(simp[Vs.LeL,Vs.look,aA];done)
 refine(aDK (tr T x.a) (tr T x.b) x.f0 x.f1 sa sb hk hm.dom hm.env Y hr).mono ?_;rintro e w3 ⟨v,s0,s1,s2,s3,xr,rfl,hg,hrt,hxr,⟨m0,hd0,hn0⟩,⟨m2,hd2,hn2⟩⟩;refine⟨_,rfl,?_⟩
 have hx:=(hm.grow hg (D:=λb=>xr=some b∨m0.D b∨m2.D b) (λb L=>by
     rcases L with h|h|h
     . exact hxr b h
     . exact⟨hn0 b h,hd0.lt b h⟩
     . exact⟨hn2 b h,hd2.lt b h⟩) [(3,.ptr (.t 3 0) 0 0)] (λp hp=>by
     simp only[Ap,Ao,AX] at hp;subst hp;exact⟨rfl,.inl rfl⟩)).putR (d:=64) (by rw[H,Cd.i_deckOf_k.n];omega) (r:=.tup [.sl 1 [[.v s0],[.v s1],[.v s2],[.v s3]],.v (.int .i64 0)]) (u:=.tuple #[v,.int .i64 0]) (.tup _ _ rfl λj hj=>by
   match j,hj with
   |0,_=>exact hrt.mono (λb L=>.inr (.inl L)) λ_ _=>rfl
   |1,_=>exact .v _)
 letI I3:=Vs.keepE (λb=>Sm b∨xr=some b∨m0.D b∨m2.D b) w3
 refine hx.rgN H 5 (τ:=⟨[(3,.ptr (.t 3 0) 0 0),(8,.sl 1 [[.v s0],[.v s1],[.v s2],[.v s3]]),(9,.v (.int .i64 0))],[(.t 3 0,.var (cS x) false)]⟩) ?_ λa8 w8 S8 p8 hy=>RgL.nil ?_
 .simp -dsimp only[go_sem,cS,cTs,gA,O]
  first|(simp[Vs.LeL,Vs.look,aA];done)
 have hv:w.heap.size<=wm.heap.size:=by rw[←U];exact hm.size
 refine At.seq (At.block ?_);refine At.seq (At.rg (hy.rgN H 3 (τ:=⟨[(67,.v (.bool false)),(3,.ptr (.t 3 0) 0 0),(8,.sl 1 [[.v s0],[.v s1],[.v s2],[.v s3]])],[(.t 3 0,.var (cS x) false)]⟩) ?_ λa9 w9 S9 p9 hu=>RgL.nil ?_))
 .simp -dsimp only[go_sem,cS,cTs,gA,O]
  first|(simp[Vs.LeL,Vs.look,aA];done)
 refine hu.cond rfl (λh=>(by cases h)) λ_=>?_;refine At.seq (At.rg (hu.rgN H 4 (τ:=⟨[(71,.v (.bool (x.kind==3))),(8,.sl 1 [[.v s0],[.v s1],[.v s2],[.v s3]])],[]⟩) ?_ λaa wa Sa pa ho=>RgL.nil ?_))
 .simp -dsimp only[go_sem,cS,cTs,gA,O]
  first|(simp[Vs.LeL,Vs.look,aA];done)
 by_cases h3:x.kind=3
 .refine ho.cond rfl (λ_=>?_) λh=>absurd h (by simp[h3]);rw[show dkL x (tr T x.a) (tr T x.b)=mat x.f0 x.f1 (tr T x.a) (tr T x.b) true by simp[dkL,h1,h2,h5,h6,h3]];refine At.seq (At.rg (ho.rgN H 5 (τ:=⟨[(4,.v s0),(5,.v (.int .i64 0))],[]⟩) ?_ λab wb Sb pb ht=>RgL.nil ?_))
  .simp -dsimp only[go_sem,cS,cTs,gA,O]
   repeat' first|simp -dsimp only[go_sem,cS,cTs,gA,O]|apply Br.mk<;>intro h<;>try simp -dsimp only[h]|refine aC ?_|fail
   all_goals first|(simp[Vs.LeL,Vs.look,aA];done)|omega|exact⟨by decide,by simp[Vs.LeL,Vs.look,aA]⟩
  have I:=ht.retDk (fn:=Tryz.f92) U hd0 (λb L=>Bl hv (hn0 b L)) (λb L=>.inr (.inr (.inl L))) (((p8.trans p9).trans pa).trans pb) (by
    show dQ Tryz.prog _ _ [_,_]
    simp[dQ,qX,Vs.look,dU])
  refine At.ret ?_
  first|exact⟨.inl rfl,I⟩|(simp only[Exit.inBlock,Exit.then];exact⟨.inl trivial,I⟩)
 refine ho.cond rfl (λh=>absurd h (by simp[h3])) λ_=>At.skip ?_;rw[show dkL x (tr T x.a) (tr T x.b)=mat x.f0 x.f1 (tr T x.a) (tr T x.b) false by simp[dkL,h1,h2,h5,h6,h3]];show Vs.At Tryz.prog Tryz.f92.ntmps (aW Tryz.prog) (.seq (.region _ _ _) _) _ _ _
 refine At.seq (At.rg (ho.rgN H 5 (τ:=⟨[(4,.v s2),(5,.v (.int .i64 0))],[]⟩) ?_ λab wb Sb pb ht=>RgL.nil ?_))
 .simp -dsimp only[go_sem,cS,cTs,gA,O]
  repeat' first|simp -dsimp only[go_sem,cS,cTs,gA,O]|apply Br.mk<;>intro h<;>try simp -dsimp only[h]|refine aC ?_|fail
  all_goals first|(simp[Vs.LeL,Vs.look,aA];done)|omega|exact⟨by decide,by simp[Vs.LeL,Vs.look,aA]⟩
 have I:=ht.retDk (fn:=Tryz.f92) U hd2 (λb L=>Bl hv (hn2 b L)) (λb L=>.inr (.inr (.inr L))) (((p8.trans p9).trans pa).trans pb) (by
   show dQ Tryz.prog _ _ [_,_]
   simp[dQ,qX,Vs.look,dU])
 refine At.ret ?_
 first|exact⟨.inl rfl,I⟩|(simp only[Exit.inBlock,Exit.then];exact⟨.inl trivial,I⟩)
end Go.Proofs.YtkgeiaideklmoaaGreat
