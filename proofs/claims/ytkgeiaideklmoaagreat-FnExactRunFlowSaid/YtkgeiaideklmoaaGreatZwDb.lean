/- Decks in memory of their own: SortedBy, SelectEqual, FirstOfGroups, MergeDecks. -/
import Derived.Test.YtkgeiaideklmoaaGreatZwMc
import Derived.Test.YtkgeiaideklmoaaGreatZwMe
import Derived.Test.YtkgeiaideklmoaaGreatVuP
set_option linter.all false
set_option maxHeartbeats 8000000
namespace Go.Proofs.YtkgeiaideklmoaaGreat
open Go.Vs
variable [Vs.Envs]
attribute [local irreducible] Vs.Fn dR iP aV bA mgC iM flt dI oC iW gN bK aO bL bM l03 chB rk cd3 chI stp aP
attribute [local go_sem] Bh Bz Int.reduceBEq Int.reduceBNe cC Af Ag Al Aq Ae Ai Ac Ak Ab Ah Am aH
theorem aCz (l:List (List Int)) (fr to:Int) (s:ByteArray) (hk:aZ l) (hl:s.size<=1048576) (h0:iM fr to s l=0) {S:Nat->Prop}{w:World}{vs:Array Value} (hS:∀b,S b->b<w.heap.size) (he:Env S w) (hj:vs.size=3) (O:∀j,j<3->RC S w (([.sl 1 (E cC l),.agg (cFd fr to),.v (.string s)]:List AV).getD j .junk) (vs.getD j undef)):Calls Tryz.prog F.gI vs w (aBd w ((flt (dI fr to s) l).map (E cI))):=by
 obtain⟨h1,h2,_⟩:=Cd.i_SelectEqual_k.o;obtain⟨hm,J,hc⟩:=AY.1 h2;have hz:(Tryz.f122.body.map (zB Tryz.f122.ntmps (aW Tryz.prog)))=some true:=by kernel_rfl
 rw[J] at hz;have Y:=bB Tryz.mixed;refine Vs.Pt.calls (dr:=aW Tryz.prog) (ac:=Cd.gI) h1 J hc (by simpa using hz) (args:=[.sl 1 (E cC l),.agg (cFd fr to),.v (.string s)]) (by rw[Cd.i_SelectEqual_k.n];exact Bc rfl) hS he hj O λC1 a H U ho Z=>?_;unfold Cd.gI;refine Z.goT Y H 1 _ (τ:=⟨[(0,.sl 1 (E cC l)),(2,.v (.string s)),(4,.ptr (.t 4 0) 0 0)],[(.t 4 0,.var (cFd fr to) false)]⟩) (λC hC=>?_) λa1 w1 S1 p1 ha=>?_
 .simp -dsimp only[go_sem,cFd]
  first|(simp[Vs.LeL,Vs.look,aA];done)
 refine At.seq (At.rg (ha.rgN H 4 (τ:=⟨[(8,.sl 1 (E cC l)),(9,.agg (cFd fr to)),(10,.v (.string s)),(11,.v (.string s))],[(.t 4 0,.var (cFd fr to) false)]⟩) ?_ λa2 w2 S2 p2 I=>I.rgc H (ts:=[8,9,10,11]) (ys:=[.sl 1 (E cC l),.agg (cFd fr to),.v (.string s),.v (.string s)]) (jZ Cd.i_SelectBetween_k.o) rfl rfl λus hh hr=>?_))
 .simp -dsimp only[go_sem,cFd];simp[Vs.LeL,Vs.look,aA]
 refine(aBi l fr to s hk hl h0 I.dom I.env hh hr).mono ?_;rintro e w3 ⟨v,rfl,hg,m,hd3,hn⟩;refine⟨_,rfl,?_⟩;have hd:=(I.grow hg (D:=m.D) (λb J=>⟨hn b J,hd3.lt b J⟩) [] (λp Z=>by cases Z)).putR (d:=12) (by rw[H,Cd.i_SelectEqual_k.n];omega) (r:=.tup [.v v,.v (.int .i64 0)]) (aAt _ _)
 letI I3:=Vs.keepE (λb=>S2 b∨m.D b) w3
 refine hd.rgN H 4 (τ:=⟨[(6,.v v),(7,.v (.int .i64 0))],[]⟩) ?_ λa5 w5 S5 p5 hf=>RgL.nil ?_
 .simp -dsimp only[go_sem,cFd];simp[Vs.LeL,Vs.look,aA]
 have L:=hf.retDk (fn:=Tryz.f122) U hd3 (λb J=>by have:=hn b J;have h9:=I.size;rw[U] at h9;omega) (λb J=>.inr J) p5 (by
   show dQ Tryz.prog _ _ [_,_]
   simp[dQ,qX,Vs.look,dU])
 refine At.ret ?_
 first|exact⟨.inl rfl,L⟩|(simp only[Exit.inBlock,Exit.then];exact⟨.inl trivial,L⟩)
theorem aGy (l:List (List Int)) (fr to:Int) (hk:aZ l) (h0:bA fr to l=0) {S:Nat->Prop}{w:World}{vs:Array Value} (hS:∀b,S b->b<w.heap.size) (he:Env S w) (hm:vs.size=2) (O:∀j,j<2->RC S w (([.sl 1 (E cC l),.agg (cFd fr to)]:List AV).getD j .junk) (vs.getD j undef)):Calls Tryz.prog F.kQ vs w (aBd w ((iP fr to l).map (E cI))):=by
 obtain ⟨U,hf⟩:bF l=true∧dZ fr to (bJ l)=true:=by
  unfold bA at h0;cases U:bF l
  .rw[U] at h0;simp at h0
  .cases hf:dZ fr to (bJ l)
   .rw[U,hf] at h0;simp at h0
   .exact⟨rfl,rfl⟩
 have ho:=dF U hf;have Z:=jB U;have SC:=aFv l fr to hk.2 hk.1;rw[h0] at SC;obtain⟨h1,h2,_⟩:=Cd.i_SortedBy_k.o;obtain⟨hq,J,hc⟩:=AY.1 h2;have hz:(Tryz.f120.body.map (zB Tryz.f120.ntmps (aW Tryz.prog)))=some true:=by kernel_rfl
 rw[J] at hz;have ht:=bB Tryz.mixed;refine Vs.Pt.calls (dr:=aW Tryz.prog) (ac:=Cd.kQ) h1 J hc (by simpa using hz) (args:=[.sl 1 (E cC l),.agg (cFd fr to)]) (by rw[Cd.i_SortedBy_k.n];exact Bc rfl) hS he hm O λC1 a H Y hs hp=>?_;unfold Cd.kQ;refine hp.goT dM H 2 _ (τ:=⟨[(0,.sl 1 (E cC l)),(3,.ptr (.t 3 0) 0 0)],[(.t 3 0,.var (cFd fr to) false)]⟩) (λC hC=>?_) λa1 w1 S1 p1 ha=>?_
 .simp -dsimp only[go_sem,cFd]
  repeat' first|simp -dsimp only[go_sem,cFd]|apply Br.mk<;>intro h<;>try simp -dsimp only[h]|refine aB.c (by first|exact SC) ?_|refine aC ?_|fail
  all_goals first|(simp[Vs.LeL,Vs.look,aA];done)|exact⟨by simp[Vs.LeL,Vs.look,aA],trivial⟩|omega
 refine At.seq (At.rg (ha.rgN H 2 (τ:=⟨[(13,.sl 1 (E cC l)),(14,.agg (cFd fr to))],[(.t 3 0,.var (cFd fr to) false)]⟩) ?_ λa2 w2 S2 p2 I=>I.rgc H (ts:=[13,14]) (ys:=[.sl 1 (E cC l),.agg (cFd fr to)]) (jZ Cd.i_sortedBy_k.o) rfl rfl λus hl hr=>?_))
 .simp -dsimp only[go_sem,cFd];simp[Vs.LeL,Vs.look,aA]
 refine(aBJ l fr to ho Z hk.2 I.dom I.env hl hr).mono ?_;rintro e w3 ⟨v,rfl,hg,m,hd3,hn⟩;refine⟨_,rfl,?_⟩;have hh:=(I.grow hg (D:=m.D) (λb J=>⟨hn b J,hd3.lt b J⟩) [] (λp hp=>by cases hp)).putR (d:=15) (by rw[H,Cd.i_SortedBy_k.n];omega) (r:=.v v) (.v _)
 letI I3:=Vs.keepE (λb=>S2 b∨m.D b) w3
 refine hh.rgN H 2 (τ:=⟨[(4,.v v),(5,.v (.int .i64 0))],[]⟩) ?_ λa5 w5 S5 p5 hj=>RgL.nil ?_
 .simp -dsimp only[go_sem,cFd];simp[Vs.LeL,Vs.look,aA]
 have L:=hj.retDk (fn:=Tryz.f120) Y hd3 (λb J=>by have:=hn b J;have h9:=I.size;rw[Y] at h9;omega) (λb J=>.inr J) p5 (by
   show dQ Tryz.prog _ _ [_,_]
   simp[dQ,qX,Vs.look,dU])
 refine At.ret ?_
 first|exact⟨.inl rfl,L⟩|(simp only[Exit.inBlock,Exit.then];exact⟨.inl trivial,L⟩)
theorem aBw (l:List (List Int)) (fr to:Int) (hk:aZ l) (h0:bA fr to l=0) {S:Nat->Prop}{w:World}{vs:Array Value} (hS:∀b,S b->b<w.heap.size) (he:Env S w) (qq:vs.size=2) (hh:∀j,j<2->RC S w (([.sl 1 (E cC l),.agg (cFd fr to)]:List AV).getD j .junk) (vs.getD j undef)):Calls Tryz.prog F.dX vs w (aBd w ((oC fr to l).map (E cI))):=by
 obtain ⟨hd,hf⟩:bF l=true∧dZ fr to (bJ l)=true:=by
  unfold bA at h0;cases hd:bF l
  .rw[hd] at h0;simp at h0
  .cases hf:dZ fr to (bJ l)
   .rw[hd,hf] at h0;simp at h0
   .exact⟨rfl,rfl⟩
 have ho:=dF hd hf;have qt:=jB hd;have hs:=hk.2;have CC:=qR fr to [l] ⟨by simp,λd hd=>by simp at hd;subst hd;exact hk⟩;rw[aGq,h0] at CC;have GO:=aC8 l fr to ho hk.1;have qu:(aV fr to l l.length).length<=1048576:=Bl (iU fr to l l.length) hk.1;obtain⟨h1,h2,_⟩:=Cd.i_FirstOfGroups_k.o;obtain⟨qs,H,hc⟩:=AY.1 h2;have hz:(Tryz.f123.body.map (zB Tryz.f123.ntmps (aW Tryz.prog)))=some true:=by kernel_rfl
 rw[H] at hz;have qx:=bB Tryz.mixed;refine Vs.Pt.calls (dr:=aW Tryz.prog) (ac:=Cd.dX) h1 H hc (by simpa using hz) (args:=[.sl 1 (E cC l),.agg (cFd fr to)]) (by rw[Cd.i_FirstOfGroups_k.n];exact Bc rfl) hS he qq hh λC1 a I hx qv hp=>?_;unfold Cd.dX;refine hp.goT dM I 3 _ (τ:=⟨[(0,.sl 1 (E cC l)),(3,.ptr (.t 3 0) 0 0),(7,.loc (.t 7 0) 0 0)],[(.t 7 0,.arr 1 [] false),(.t 3 0,.var (cFd fr to) false)]⟩) (hτ:=(fvC ⟨λr hr=>(by cases hr),rfl⟩ (fvC ⟨rfl,rfl⟩ fvN))) (λC hC=>?_) λa1 w1 S1 p1 hu=>?_
 .simp -dsimp only[go_sem,cFd]
  repeat' first|simp -dsimp only[go_sem,cFd]|apply Br.mk<;>intro h<;>try simp -dsimp only[h]|refine aB.c (by first|exact CC) ?_|refine aC ?_|fail
  all_goals first|(simp[Vs.LeL,Vs.look,aA];done)|exact⟨by simp[Vs.LeL,Vs.look,aA],trivial⟩|omega
 refine At.seq (?_);refine hu.goT dM I 1 _ (τ:=⟨[(0,.sl 1 (E cC l)),(7,.loc (.t 7 0) 0 (([]:List Sl)).length),(20,.sl 1 (E cI (aV fr to l l.length))),(21,.v (.int .i64 ((aV fr to l l.length).length:Nat))),(22,.v (.int .i64 (0:Nat)))],[(.t 7 0,.arr 1 (E sV (([]:List Sl))) false)]⟩) (λC hC=>?_) λa2 w2 S2 p2 L=>?_
 .have qb:E sV ([]:List Sl)=[]:=rfl
  repeat' first|simp -dsimp only[go_sem,qb,cFd]|apply Br.mk<;>intro h<;>try simp -dsimp only[h]|refine aB.c (by first|exact GO) ?_|refine aC ?_|fail
  all_goals first|(simp[Vs.LeL,Vs.look,aA];done)|exact⟨by simp[Vs.LeL,Vs.look,aA],trivial⟩|omega
 let IV:Nat->Act->World->Prop:=λnn a' w'=>∃(i:Nat) (V:List Sl) (S':Nat->Prop) (I':Vs.Envs) (xs:Nat->Option Nat) (cs:Nat->Nat),nn=(aV fr to l l.length).length-i∧i<=(aV fr to l l.length).length∧V.length=i∧Vs.Pt I' C1 (⟨[(0,.sl 1 (E cC l)),(7,.loc (.t 7 0) 0 (V).length),(20,.sl 1 (E cI (aV fr to l l.length))),(21,.v (.int .i64 ((aV fr to l l.length).length:Nat))),(22,.v (.int .i64 (i:Nat)))],[(.t 7 0,.arr 1 (E sV (V)) false)]⟩:St) a' w' S'∧mD (λ_=>False) w' 1 ((((aV fr to l l.length).take i).map λz=>l.getD z.toNat []).map (E cI)) (V.map slW) xs cs∧∀j b,j<V.length->xs j=some b->S' b∧C1.w0.heap.size<=b
 refine At.block (At.loop IV (λnn a1 w1 hI=>?_) (n:=(aV fr to l l.length).length) ⟨0,[],S2,_,λ_=>none,λ_=>0,by omega,by omega,rfl,L,⟨rfl,by simp,by simp⟩,by simp⟩);obtain⟨i,V,S1,I1,xs,cs,hn,hi,qd,hu,J,U⟩:=hI;refine hu.goT dM I 1 _ (τ:=⟨[(23,.v (.bool (decide ((i:Nat)<((aV fr to l l.length).length:Nat))))),(0,.sl 1 (E cC l)),(7,.loc (.t 7 0) 0 (V).length),(20,.sl 1 (E cI (aV fr to l l.length))),(21,.v (.int .i64 ((aV fr to l l.length).length:Nat))),(22,.v (.int .i64 (i:Nat)))],[(.t 7 0,.arr 1 (E sV (V)) false)]⟩) (λC hC=>?_) λa2 w2 S2 p2 L=>?_
 .simp -dsimp only[go_sem,cFd]
  repeat' first|simp -dsimp only[go_sem,cFd]|apply Br.mk<;>intro h<;>try simp -dsimp only[h]|refine aC ?_|fail
  all_goals first|(simp[Vs.LeL,Vs.look,aA];done)|exact⟨by simp[Vs.LeL,Vs.look,aA],trivial⟩|omega
 refine At.seq (L.cond (b:=decide ((i:Nat)<((aV fr to l l.length).length:Nat))) rfl (λht=>At.skip ?_) (λhf=>At.exit ?_))
 .have ha:i<(aV fr to l l.length).length:=BJ ht;have qr:=aG ha (by omega)
  obtain ⟨q,hq,hw⟩:∃q:Nat,(aV fr to l l.length)[i]=q∧q<l.length:=by
   obtain⟨g1,g2⟩:=zJ (fr:=fr) (to:=to) (l:=l) _ (Aa ha);exact⟨((aV fr to l l.length)[i]).toNat,by omega,by omega⟩
  have h3:(E cI (aV fr to l l.length)).getD i []=[.v (.int .i64 (q:Nat))]:=by rw[aN ha,hq];rfl
  have hm:(E cC l).getD q []=[.sl 1 (E cI (l.getD q []))]:=by rw[aN hw,show l.getD q []=l[q] by simp[List.getD,hw]];rfl
  have NC:=aCU (l.getD q []) (hs _ (by rw[show l.getD q []=l[q] by simp[List.getD,hw]];exact Aa _));have qf:(E cI (l.getD q [])).length=(l.getD q []).length:=aH _;have qi:(E sV V).length=V.length:=aH _;refine At.seq (At.block ?_);refine L.goT dM I 1 _ (τ:=⟨[(9,.v (.int .i64 (q:Nat))),(0,.sl 1 (E cC l)),(7,.loc (.t 7 0) 0 V.length),(20,.sl 1 (E cI (aV fr to l l.length))),(21,.v (.int .i64 ((aV fr to l l.length).length:Nat))),(22,.v (.int .i64 (i:Nat)))],[(.t 7 0,.arr 1 (E sV V) false)]⟩) (λC hC=>?_) λa3 w3 S3 p3 qj=>?_
  .simp -dsimp only[go_sem,h3,cFd]
   repeat' first|simp -dsimp only[go_sem,h3,cFd]|apply Br.mk<;>intro h<;>try simp -dsimp only[h]|refine aC ?_|fail
   all_goals first|(simp[Vs.LeL,Vs.look,aA];done)|exact⟨by simp[Vs.LeL,Vs.look,aA],trivial⟩|omega
  refine At.naming (At.rg (qj.rgN I 6 (τ:=⟨[(31,.agg [.loc (.t 31 0) 0 (l.getD q []).length]),(26,.loc (.t 7 0) 0 V.length),(0,.sl 1 (E cC l)),(20,.sl 1 (E cI (aV fr to l l.length))),(21,.v (.int .i64 ((aV fr to l l.length).length:Nat))),(22,.v (.int .i64 (i:Nat)))],[(.t 31 0,.arr 1 (E cI (l.getD q [])) false),(.t 7 0,.arr 1 (E sV V) false)]⟩) ?_ λa4 w4 S4 p4 h5=>?_))
  .simp -dsimp only[go_sem,hm,cFd]
   repeat' first|simp -dsimp only[go_sem,hm,cFd]|apply Br.mk<;>intro h<;>try simp -dsimp only[h]|refine aC ?_|fail
   all_goals first|omega|(refine aB.own NC rfl ?_;simp -dsimp only[go_sem,hm,cFd];first|(simp[Vs.LeL,Vs.look,aA];done)|exact⟨by simp[Vs.LeL,Vs.look,aA],trivial⟩)
  rw[←qf] at h5
  obtain ⟨s,x6,c6,⟨sb,sm,sc,rfl⟩,h4,h8,qc⟩:=h5.bury (n:=.t 31 0) (k:=1) (rows:=E cI (l.getD q [])) rfl aID (t:=31) rfl (by
    simp only[bW];intro p hp;simp[rF] at hp;rcases hp with rfl
    exact⟨λr hr=>aX r hr,rfl⟩)
  have qk:=qc [(31,.agg [.v (.slice sb sm sc)]),(26,.loc (.t 7 0) 0 V.length),(0,.sl 1 (E cC l)),(20,.sl 1 (E cI (aV fr to l l.length))),(21,.v (.int .i64 ((aV fr to l l.length).length:Nat))),(22,.v (.int .i64 (i:Nat)))] (λp hp=>by
      simp only[Ap,Ao,AX] at hp;rcases hp with rfl|rfl|rfl|rfl|rfl|rfl
      . exact .inr (.inr rfl)
      all_goals first|exact .inl ⟨rfl,rfl⟩|exact .inr (.inl ⟨rfl,rfl⟩))
  letI I6:=Vs.keepE (λb=>S4 b∨x6=some b) w4
  have qe:=aCA V (sb,sm,sc);have h6:=qk.le (τ:=⟨[(31,.agg [.v (.slice sb sm sc)]),(26,.loc (.t 7 0) 0 V.length),(0,.sl 1 (E cC l)),(20,.sl 1 (E cI (aV fr to l l.length))),(21,.v (.int .i64 ((aV fr to l l.length).length:Nat))),(22,.v (.int .i64 (i:Nat)))],[(.t 7 0,.arr 1 (E sV V) false)]⟩) (by simp[Vs.LeL,Vs.look,aA,bW,rF,Vs.scr,Vs.AV.has]) (fvC ⟨aX,rfl⟩ fvN);refine h6.rgN I 3 (τ:=⟨[(7,.loc (.t 33 0) 0 (V.length+1)),(0,.sl 1 (E cC l)),(20,.sl 1 (E cI (aV fr to l l.length))),(21,.v (.int .i64 ((aV fr to l l.length).length:Nat))),(22,.v (.int .i64 (i:Nat)))],[(.t 33 0,.arr 1 (E sV (V++[(sb,sm,sc)])) false)]⟩) ?_ λa7 w7 S7 p7 ql=>RgL.nil ?_
  .simp -dsimp only[go_sem,qe,qi,cFd]
   and_intros
   all_goals first|omega|(simp[Vs.LeL,Vs.look,aA];done)
  have qm:=(ql.ren (n:=.t 33 0) (m:=.t 7 0) (by decide) (by rfl) (λpp hp=>by
    have e:pp∈[((.t 7 0:Vs.Name),Blk.arr 1 (E sV (V++[(sb,sm,sc)])) false)]:=by simpa[nN,Vs.rnB,Vs.nmF,Vs.rn,Vs.rnL] using hp
    simp only[Ap,Ao,AX] at e;subst e;exact⟨λr hr=>aX r hr,rfl⟩)).le (τ:=⟨[(7,.loc (.t 7 0) 0 (V.length+1)),(0,.sl 1 (E cC l)),(20,.sl 1 (E cI (aV fr to l l.length))),(21,.v (.int .i64 ((aV fr to l l.length).length:Nat))),(22,.v (.int .i64 (i:Nat)))],[(.t 7 0,.arr 1 (E sV (V++[(sb,sm,sc)])) false)]⟩) (by simp[Vs.LeL,Vs.look,aA,nN,Vs.rnB,Vs.nmF,Vs.rn,Vs.rnL]) (fvC ⟨aX,rfl⟩ fvN)
  show Vs.At Tryz.prog Tryz.f123.ntmps (aW Tryz.prog) (.region [⟨some 34,.bin .add (.tmp 22) (.const (.int .i64 (1))),none⟩,⟨some 22,.mv (.tmp 34),none⟩] _ []) _ a7 w7
  refine At.rg (qm.rgN I 2 (τ:=⟨[(0,.sl 1 (E cC l)),(7,.loc (.t 7 0) 0 ((V++[(sb,sm,sc)])).length),(20,.sl 1 (E cI (aV fr to l l.length))),(21,.v (.int .i64 ((aV fr to l l.length).length:Nat))),(22,.v (.int .i64 (i+1:Nat)))],[(.t 7 0,.arr 1 (E sV ((V++[(sb,sm,sc)]))) false)]⟩) ?_ λa9 w9 S9 p9 qn=>RgL.nil ?_)
  .simp -dsimp only[go_sem,qr,AQ,cFd]
   first|(simp[Vs.LeL,Vs.look,aA];done)
  have hg:Vs.Past S1 w1 S4 w4:=(p2.trans p3).trans p4;have qa:∀b,(S4 b∨x6=some b)->S9 b:=λb H=>p9.sub b (p7.sub b H);have h9:∀b,(S4 b∨x6=some b)->w9.heap[b]? = w4.heap[b]?:=λb H=>(p9.old b (p7.sub b H)).trans (p7.old b H);have qw:(V.map slW).length=V.length:=Bg _;have hl:=J.mono (w':=w4) (λj b Z H h=>h) λj b Z H=>hg.old b (U j b (by omega) H).1;have qo:=hl.snoc h4 (λj b Z H e=>(h8 b e).2.2 (hg.sub b (U j b (by omega) H).1));refine⟨(aV fr to l l.length).length-(i+1),by omega,i+1,V++[(sb,sm,sc)],S9,I6,λj=>if j=(V.map slW).length then x6 else xs j,λj=>if j=(V.map slW).length then c6 else cs j,rfl,by omega,by simp[qd],qn,?_,λj b Z H=>?_⟩
  .have e:(((aV fr to l l.length).take (i+1)).map λz=>l.getD z.toNat []).map (E cI)=(((aV fr to l l.length).take i).map λz=>l.getD z.toNat []).map (E cI)++[E cI (l.getD q [])]:=by rw[aY ha,Bu,Bu,hq];rfl
   rw[e,Bu]
   exact qo.mono (λj b Z H h=>h) λj b Z H=>h9 b (by
     try dsimp only at H
     split at H
     . exact .inr H
     . exact .inl (hg.sub b (U j b (by simp at Z;omega) H).1))
  .try dsimp only at H
   split at H
   .exact⟨qa b (.inr H),(h8 b H).1⟩
   .have g:=U j b (by simp at Z;omega) H;exact⟨qa b (.inl (hg.sub b g.1)),g.2⟩
 .have qh:i=(aV fr to l l.length).length:=by have:=BQ hf;omega
  subst qh;simp only[Exit.then,Exit.inBlock,Bj];have qp:(E sV V).take V.length=E sV V:=Aj (by rw[aH];exact Ar _);refine At.seq (At.rg (L.rgN I 3 (τ:=⟨[(4,.loc (.t 7 0) 0 V.length),(5,.v (.int .i64 0))],[(.t 7 0,.arr 1 (E sV V) false)]⟩) ?_ λa5 w5 S5 p5 hv=>RgL.nil ?_))
  .simp -dsimp only[go_sem,cFd]
   first|(simp[Vs.LeL,Vs.look,aA];done)
  obtain ⟨qg,u,x,h7,O,hy⟩:=hv.resRow (fn:=Tryz.f123) (n:=.t 7 0) rfl (λr hr=>aX r hr) (c:=.int .i64 0) (len:=V.length) (by
    show dQ Tryz.prog _ _ [_,_]
    simp[dQ,qX,Vs.look,dU])
  rw[qp] at O
  have Y:∀j b,j<V.length->xs j=some b->S5 b∧w5.heap[b]? = w1.heap[b]?∧C1.w0.heap.size<=b:=λj b Z H=>by
   obtain⟨g1,g2⟩:=U j b Z H;exact⟨p5.sub b (p2.sub b g1),(p5.old b (p2.sub b g1)).trans (p2.old b g1),g2⟩
  refine At.ret ⟨.inl rfl,qg,_,h7,u,rfl,hx ▸ hv.out,⟨x,V.map slW,xs,cs⟩,⟨?_,?_,λb H=>?_⟩,λb H=>?_⟩
  .show RC _ w5 (.sl 1 ((V.map slW).map λs=>[AV.v s])) u
   rw[aEL];exact O
  .show mD _ w5 1 ((oC fr to l).map (E cI)) (V.map slW) xs cs
   rw[Bv] at J;unfold oC;exact J.mono (λi b hi H e=>(hy b e).2.2 (Y i b (by simpa using hi) H).1) λi b hi H=>(Y i b (by simpa using hi) H).2.1
  .rcases H with H|⟨i,hi,H⟩
   .exact(hy b H).2.1
   .exact hv.dom b (Y i b (by simpa using hi) H).1
  .rcases H with H|⟨i,hi,H⟩
   .rw[←hx];exact(hy b H).1
   .rw[←hx];exact(Y i b (by simpa using hi) H).2.2
end Go.Proofs.YtkgeiaideklmoaaGreat
