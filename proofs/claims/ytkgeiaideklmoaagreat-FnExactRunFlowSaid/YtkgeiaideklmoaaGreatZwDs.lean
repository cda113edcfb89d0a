/- Loops over rows of slices: copied and marked, whatever lies behind the slices. -/
import Derived.Test.YtkgeiaideklmoaaGreatZwDg
import Derived.Test.YtkgeiaideklmoaaGreatZwMa
import Derived.Test.YtkgeiaideklmoaaGreatVuV
set_option linter.all false
set_option maxHeartbeats 8000000
namespace Go.Proofs.YtkgeiaideklmoaaGreat
open Go.Vs
variable [Vs.Envs]
attribute [local irreducible] Vs.Fn bK aO bL bM l03 chB rk cd3 chI stp aP
attribute [local go_sem] Int.reduceBEq Int.reduceBNe cC aH Af Ag Al Aq Ae Ai Ac Ak Ab Ah Am Au Ap Ao AX BH Vs.Name.t.injEq Aw A9 Vs.Name.b.injEq AJ Bn
def lpCp (f:FuncId):aD:=
 .seq (.region [⟨some 2,.mv (.const (.slice none 0 0)),none⟩] [0] []) <|
 .seq (.region [⟨some 5,.mv (.tmp 0),none⟩,
    ⟨some 6,.len (.tmp 5),none⟩,
    ⟨some 7,.mk 1 24 [.v (.slice none 0 0)] (.tmp 6),none⟩,
    ⟨some 3,.mv (.tmp 7),none⟩] [0,3] []) <|
 .seq (.seq (.region [⟨some 4,.mv (.const (.int .i64 (0))),none⟩] [0,3,4] []) <|
  .block 0 (
    .loop (
      .seq (.seq (.region [⟨some 8,.mv (.tmp 4),none⟩,
          ⟨some 9,.mv (.tmp 0),none⟩,
          ⟨some 10,.len (.tmp 9),none⟩,
          ⟨some 11,.bin .lss (.tmp 8) (.tmp 10),none⟩] [0,3,4,11] []) <|
       .cond (.tmp 11)
         (.skip)
         (.exit 0)) <|
      .seq (.block 1 (
         .region [⟨some 14,.mv (.tmp 3),none⟩,
           ⟨some 15,.mv (.tmp 4),none⟩,
           ⟨some 16,.mv (.tmp 0),none⟩,
           ⟨some 17,.mv (.tmp 4),none⟩,
           ⟨some 18,.idxSl 1 (.tmp 16) (.tmp 17),none⟩,
           ⟨some 19,.load false 1 (.tmp 18),none⟩,
           ⟨some 20,.call (.func f) [(.tmp 19)] [],none⟩,
           ⟨some 21,.idxSl 1 (.tmp 14) (.tmp 15),none⟩,
           ⟨none,.store 1 (.tmp 21) (.tmp 20),none⟩] [0,3,4] [])) <|
      .region [⟨some 12,.mv (.tmp 4),none⟩,
        ⟨some 13,.bin .add (.tmp 12) (.const (.int .i64 (1))),none⟩,
        ⟨some 4,.mv (.tmp 13),none⟩] [0,3,4] []))) <|
 .seq (.region [⟨some 22,.mv (.tmp 3),none⟩,
    ⟨some 2,.mv (.tmp 22),none⟩] [2] []) <|
 .ret
def lpMk (f:FuncId):aD:=
 .seq (.region [⟨some 4,.mv (.const (.int .i64 (0))),none⟩] [0,1] []) <|
 .seq (.seq (.region [⟨some 5,.mv (.const (.int .i64 (0))),none⟩] [0,1,5] []) <|
  .block 0 (
    .loop (
      .seq (.seq (.region [⟨some 6,.mv (.tmp 5),none⟩,
          ⟨some 7,.mv (.tmp 0),none⟩,
          ⟨some 8,.len (.tmp 7),none⟩,
          ⟨some 9,.bin .lss (.tmp 6) (.tmp 8),none⟩] [0,1,5,9] []) <|
       .cond (.tmp 9)
         (.skip)
         (.exit 0)) <|
      .seq (.block 1 (
         .region [⟨some 12,.mv (.tmp 0),none⟩,
           ⟨some 13,.mv (.tmp 5),none⟩,
           ⟨some 14,.idxSl 1 (.tmp 12) (.tmp 13),none⟩,
           ⟨some 15,.load false 1 (.tmp 14),none⟩,
           ⟨some 16,.mv (.tmp 1),none⟩,
           ⟨some 17,.call (.func f) [(.tmp 15),(.tmp 16)] [0],none⟩,
           ⟨some 1,.mv (.tmp 17),none⟩] [0,1,5] [])) <|
      .region [⟨some 10,.mv (.tmp 5),none⟩,
        ⟨some 11,.bin .add (.tmp 10) (.const (.int .i64 (1))),none⟩,
        ⟨some 5,.mv (.tmp 11),none⟩] [0,1,5] []))) <|
 .seq (.region [⟨some 18,.mv (.tmp 1),none⟩,
    ⟨some 4,.mv (.tmp 18),none⟩] [4] []) <|
 .ret
def lpHl (f:FuncId):aD:=
 .seq (.region [⟨some 4,.mv (.const (.int .i64 (0))),none⟩] [0,1] []) <|
 .seq (.seq (.region [⟨some 5,.mv (.const (.int .i64 (0))),none⟩] [0,1,5] []) <|
  .block 0 (
    .loop (
      .seq (.seq (.region [⟨some 6,.mv (.tmp 5),none⟩,
          ⟨some 7,.mv (.tmp 0),none⟩,
          ⟨some 8,.len (.tmp 7),none⟩,
          ⟨some 9,.bin .lss (.tmp 6) (.tmp 8),none⟩] [0,1,5,9] []) <|
       .cond (.tmp 9)
         (.skip)
         (.exit 0)) <|
      .seq (.block 1 (
         .seq (.region [⟨some 12,.mv (.tmp 0),none⟩,
            ⟨some 13,.mv (.tmp 5),none⟩,
            ⟨some 14,.idxSl 1 (.tmp 12) (.tmp 13),none⟩,
            ⟨some 15,.load false 1 (.tmp 14),none⟩,
            ⟨some 16,.mv (.tmp 1),none⟩,
            ⟨some 17,.call (.func f) [(.tmp 15),(.tmp 16)] [],none⟩,
            ⟨some 1,.mv (.tmp 17),none⟩] [0,1,5] []) <|
         .seq (.region [⟨some 18,.mv (.tmp 1),none⟩,
            ⟨some 19,.bin .lss (.tmp 18) (.const (.int .i64 (0))),none⟩] [0,1,5,19] []) <|
         .cond (.tmp 19)
           (.seq (.region [⟨some 4,.mv (.const (.int .i64 (-1))),none⟩] [4] []) <|
           .ret)
           (.skip))) <|
      .region [⟨some 10,.mv (.tmp 5),none⟩,
        ⟨some 11,.bin .add (.tmp 10) (.const (.int .i64 (1))),none⟩,
        ⟨some 5,.mv (.tmp 11),none⟩] [0,1,5] []))) <|
 .seq (.region [⟨some 20,.mv (.tmp 1),none⟩,
    ⟨some 4,.mv (.tmp 20),none⟩] [4] []) <|
 .ret
theorem aL2 (V:List Sl) (i:Nat) (s:Sl):(E sV V).set i [.v (.slice s.1 s.2.1 s.2.2)]=E sV (V.set i s):=by simp[E,De,sV]
abbrev aLK {α β:Type} (D:β->Nat->Prop) (G:World->α->Sl->β->Prop) (l:List α) (w:World) (e:Ending) (w':World):Prop:=∃(v:Value) (x0:Option Nat) (c0:Nat) (V:List Sl) (M:Nat->β),e=.returned v∧kY w w'∧Vs.Own (λ_=>False) w' x0 c0 1 (E sV V) v∧V.length=l.length∧(∀i (h:i<l.length),G w' l[i] (V.getD i default) (M i))∧(∀i j b,i<V.length->j<V.length->D (M i) b->D (M j) b->i=j)∧(∀i b,i<V.length->D (M i) b->x0≠some b)∧∀b,(x0=some b∨∃i,i<V.length∧D (M i) b)->w.heap.size<=b∧b<w'.heap.size
theorem nilS (n:Nat):E sV (List.replicate n (default:Sl))=List.replicate n [.v (.slice none 0 0)]:=by simp only[E,List.map_replicate];rfl
set_option maxRecDepth 20000 in
attribute [local go_sem] Bh Bz in
theorem aLs {fid f:FuncId}{fn:Func} (ho:cZ Tryz.prog fid fn (lpCp f)) (hn:fn.ntmps=23) (hs:fn.results.toList=[.tmp 2]) (hz:(fn.body.map (zB fn.ntmps (aW Tryz.prog)))=some true) (hf:iO Tryz.prog f)
  {α β:Type}{l:List α}{c:α->AV} (hc:∀x,dA (c x)=true) (hl:l.length<=1048576) {D:β->Nat->Prop}{G:World->α->Sl->β->Prop} (m0:β)
  (hG:∀w w' x s m,G w x s m->w.heap.size<=w'.heap.size->(∀b,D m b->w'.heap[b]? = w.heap[b]?)->G w' x s m) (hL:∀w x s m,G w x s m->∀b,D m b->b<w.heap.size)
  (hF:∀x,x∈l->∀(S:Nat->Prop) (w:World) (v:Value),(∀b,S b->b<w.heap.size)->RC S w (c x) v->Calls Tryz.prog f #[v] w λe w'=>∃s m,e=.returned (slW s)∧kY w w'∧G w' x s m∧∀b,D m b->w.heap.size<=b)
  {S:Nat->Prop}{w:World}{v0:Value} (hS:∀b,S b->b<w.heap.size) (he:Env S w) (h0:RC S w (.sl 1 (E (λx=>[c x]) l)) v0) :
  Calls Tryz.prog fid #[v0] w (aLK D G l w):=by
 obtain⟨h1,h2,_⟩:=ho;obtain⟨body,hb,hcc⟩:=AY.1 h2;rw[hb] at hz;have hdr:=bB Tryz.mixed;have hlE:(E (λx=>[c x]) l).length=l.length:=aH _
 refine Vs.Pt.calls (dr:=aW Tryz.prog) (ac:=lpCp f) h1 hb hcc (by simpa using hz) (args:=[.sl 1 (E (λx=>[c x]) l)]) (by rw[hn];exact Bc rfl) hS he rfl (λj hj=>by
   match j,hj with
   |0,_=>exact h0) λC1 a hnt hw0 hS0 hp=>?_
 unfold lpCp;refine hp.goT dM hnt 2 _ (τ:=⟨[(0,.sl 1 (E (λx=>[c x]) l)),(3,.loc (.t 7 0) 0 l.length)],[(.t 7 0,.arr 1 (E sV (List.replicate l.length (default:Sl))) false)]⟩) (hτ:=λp hp=>by rw[Au.1 hp];exact⟨λr hr=>aX r hr,rfl⟩) (λC hC=>?_) λa2 w2 S2 p2 hp2=>?_
 .rw[nilS]
  repeat' first|simp -dsimp only[go_sem,hlE]|refine RgK.mk rfl ?_|fail
  all_goals first|(simp[Vs.LeL,Vs.look,aA];done)|exact⟨by simp[Vs.LeL,Vs.look,aA],trivial⟩|omega|(and_intros<;>first|omega|trivial|(simp[Vs.LeL,Vs.look,aA];done))
 refine At.seq (?_);refine hp2.goT dM hnt 1 _ (τ:=⟨[(0,.sl 1 (E (λx=>[c x]) l)),(3,.loc (.t 7 0) 0 l.length),(4,.v (.int .i64 (0:Nat)))],[(.t 7 0,.arr 1 (E sV (List.replicate l.length (default:Sl))) false)]⟩) (hτ:=λp hp=>by rw[Au.1 hp];exact⟨λr hr=>aX r hr,rfl⟩) (λC hC=>?_) λa3 w3 S3 p3 hp3=>?_
 .rw[nilS]
  repeat' first|simp -dsimp only[go_sem,hlE]|refine RgK.mk rfl ?_|fail
  all_goals first|(simp[Vs.LeL,Vs.look,aA];done)|exact⟨by simp[Vs.LeL,Vs.look,aA],trivial⟩|omega|(and_intros<;>first|omega|trivial|(simp[Vs.LeL,Vs.look,aA];done))
 let IV:Nat->Act->World->Prop:=λnn a' w'=>∃(i:Nat) (W:List Sl) (S':Nat->Prop) (I':Vs.Envs) (M:Nat->β),nn=l.length-i∧i<=l.length∧W.length=l.length∧Vs.Pt I' C1 (⟨[(0,.sl 1 (E (λx=>[c x]) l)),(3,.loc (.t 7 0) 0 l.length),(4,.v (.int .i64 (i:Nat)))],[(.t 7 0,.arr 1 (E sV (W)) false)]⟩:St) a' w' S'∧(∀j (h:j<l.length),j<i->G w' l[j] (W.getD j default) (M j))∧(∀j b,j<i->D (M j) b->S' b∧C1.w0.heap.size<=b)∧∀j k b,j<i->k<i->D (M j) b->D (M k) b->j=k
 refine At.block (At.loop IV (λnn a1 w1 hI=>?_) (n:=l.length) ⟨0,List.replicate l.length default,S3,_,λ_=>m0,by omega,by omega,by simp,hp3,by simp,by simp,by simp⟩);obtain⟨i,W,S1,I1,M,hni,hi,hWl,hp1,hdk,hMS,hMd⟩:=hI;refine At.seq (?_);refine hp1.goT dM hnt 1 _ (τ:=⟨[(11,.v (.bool (decide ((i:Nat)<(l.length:Nat))))),(0,.sl 1 (E (λx=>[c x]) l)),(3,.loc (.t 7 0) 0 l.length),(4,.v (.int .i64 (i:Nat)))],[(.t 7 0,.arr 1 (E sV (W)) false)]⟩) (hτ:=λp hp=>by rw[Au.1 hp];exact⟨λr hr=>aX r hr,rfl⟩) (λC hC=>?_) λa2 w2 S2 p2 hp2=>?_
 .simp -dsimp only[go_sem,hlE]
  repeat' first|simp -dsimp only[go_sem,hlE]|refine RgK.mk rfl ?_|fail
  all_goals first|(simp[Vs.LeL,Vs.look,aA];done)|exact⟨by simp[Vs.LeL,Vs.look,aA],trivial⟩|omega|(and_intros<;>first|omega|trivial|(simp[Vs.LeL,Vs.look,aA];done))
 refine hp2.cond (b:=decide ((i:Nat)<(l.length:Nat))) rfl (λht=>At.skip ?_) (λhf=>At.exit ?_)
 .have hlt:i<l.length:=by have:=BJ ht;omega
  have hw9:=aG hlt hl;have hm:(E (λx=>[c x]) l).getD i []=[c l[i]]:=aN hlt;have hlV:(E sV W).length=l.length:=by rw[aH];exact hWl
  have hwi:i<W.length:=by omega
  have hgV:(E sV W).getD i []=[.v (.slice W[i].1 W[i].2.1 W[i].2.2)]:=aN hwi;refine At.seq (At.block (At.rg (hp2.rgN hnt 6 (τ:=⟨[(19,c l[i]),(14,.loc (.t 7 0) 0 l.length),(15,.v (.int .i64 (i:Nat))),(0,.sl 1 (E (λx=>[c x]) l)),(3,.loc (.t 7 0) 0 l.length),(4,.v (.int .i64 (i:Nat)))],[(.t 7 0,.arr 1 (E sV W) false)]⟩) (hτ:=λp hp=>by rw[Au.1 hp];exact⟨λr hr=>aX r hr,rfl⟩) ?_ λa3 w3 S3 p3 hp3=>hp3.rgcall hnt (ts:=[19]) (ys:=[c l[i]]) hf rfl (λi hi=>by match i,hi with|0,_=>rfl) (λi hi=>by match i,hi with|0,_=>exact hc _) λus hus hr=>?_)))
  .simp -dsimp only[go_sem,hm,hlE]
   first|(simp[Vs.LeL,Vs.look,aA];done)|exact⟨⟨by omega,by omega⟩,by simp[Vs.LeL,Vs.look,aA]⟩
  obtain⟨u0,rfl⟩:∃u0,us=#[u0]:=⟨_,Vs.us1 hus rfl⟩;refine(hF _ (Aa hlt) S3 w3 u0 hp3.dom (hr 0 Dj)).mono ?_;rintro e w4 ⟨s,m,rfl,hg,hg4,hnew⟩;refine⟨_,rfl,?_⟩
  have hp4:=(hp3.grow hg (D:=D m) (λb hb=>⟨hnew b hb,hL _ _ _ _ hg4 b hb⟩) [(14,.loc (.t 7 0) 0 l.length),(15,.v (.int .i64 (i:Nat))),(0,.sl 1 (E (λx=>[c x]) l)),(3,.loc (.t 7 0) 0 l.length),(4,.v (.int .i64 (i:Nat)))] (λp hp=>by
    simp only[Ap,Ao,AX] at hp;rcases hp with rfl|rfl|rfl|rfl|rfl
    . exact⟨rfl,.inl rfl⟩
    . exact⟨rfl,.inl rfl⟩
    . exact ⟨rfl,.inr (by
        simp only[dA])⟩
    . exact⟨rfl,.inl rfl⟩
    . exact⟨rfl,.inl rfl⟩)).put (d:=20) (by rw[hnt,hn];omega) (slW s)
  letI I4:=Vs.keepE (λb=>S3 b∨D m b) w4
  refine hp4.rgN hnt 2 (τ:=⟨[(0,.sl 1 (E (λx=>[c x]) l)),(3,.loc (.t 7 0) 0 l.length),(4,.v (.int .i64 (i:Nat)))],[(.t 7 0,.arr 1 (E sV (W.set i s)) false)]⟩) (hτ:=λp hp=>by rw[Au.1 hp];exact⟨λr hr=>aX r hr,rfl⟩) ?_ λa5 w5 S5 p5 hp5=>RgL.nil ?_
  .rw[←aL2];simp only[slW];simp -dsimp only[go_sem,hgV,hlV,hlE]
   first|(simp[Vs.LeL,Vs.look,aA];done)|exact⟨⟨by omega,by omega⟩,by simp[Vs.LeL,Vs.look,aA]⟩|(and_intros<;>first|omega|rfl|(simp[Vs.LeL,Vs.look,aA];done))
  simp only[Exit.inBlock,Exit.then];show Vs.At Tryz.prog _ _ (.region [⟨some 12,.mv (.tmp 4),none⟩,⟨some 13,.bin .add (.tmp 12) (.const (.int .i64 (1))),none⟩,⟨some 4,.mv (.tmp 13),none⟩] _ []) _ a5 w5
  refine At.rg (hp5.rgN hnt 3 (τ:=⟨[(0,.sl 1 (E (λx=>[c x]) l)),(3,.loc (.t 7 0) 0 l.length),(4,.v (.int .i64 (i+1:Nat)))],[(.t 7 0,.arr 1 (E sV (W.set i s)) false)]⟩) (hτ:=λp hp=>by rw[Au.1 hp];exact⟨λr hr=>aX r hr,rfl⟩) ?_ λa9 w9 S9 p9 hp9=>RgL.nil ?_)
  .simp -dsimp only[go_sem,hw9,hlE]
   first|(simp[Vs.LeL,Vs.look,aA];done)
  have pA:Vs.Past S1 w1 S3 w3:=p2.trans p3;have p4:Vs.Past S3 w3 (λb=>S3 b∨D m b) w4:=Vs.Past.grow hg hp3.dom;have p49:Vs.Past (λb=>S3 b∨D m b) w4 S9 w9:=p5.trans p9;have pB:Vs.Past S1 w1 S9 w9:=(pA.trans p4).trans p49;have hsz:C1.w0.heap.size<=w3.heap.size:=hp3.size
  have hold:∀j b,j<i->D (M j) b->D m b->False:=λj b hj hb hm=>by
   have h2:=hp3.dom b (pA.sub b (hMS j b hj hb).1);have h3:=hnew b hm;omega
  refine⟨l.length-(i+1),by omega,i+1,W.set i s,S9,_,λj=>if j=i then m else M j,rfl,by omega,by simp[hWl],hp9,λj hjl hj=>?_,λj b hj hb=>?_,λj k b hj hk hb1 hb2=>?_⟩
  .by_cases e:j=i
   .subst e;have e1:(W.set j s).getD j default=s:=by simp[hwi]
    simp only[Bj];rw[e1];exact hG _ _ _ _ _ hg4 p49.size λb hb=>p49.old b (.inr hb)
   .have e1:(W.set i s).getD j default=W.getD j default:=by
     simp only[A8];rw[Da (DN e)]
    simp only[e,Bd];rw[e1];exact hG _ _ _ _ _ (hdk j hjl (by omega)) pB.size λb hb=>pB.old b (hMS j b (by omega) hb).1
  .by_cases e:j=i
   .simp only[e,Bj] at hb;exact⟨p49.sub b (.inr hb),by have:=hnew b hb;omega⟩
   .simp only[e,Bd] at hb;exact⟨pB.sub b (hMS j b (by omega) hb).1,(hMS j b (by omega) hb).2⟩
  .by_cases e:j=i<;>by_cases e':k=i
   .rw[e,e']
   .simp only[e,e',Bj,Bd] at hb1 hb2;exact(hold k b (by omega) hb2 hb1).elim
   .simp only[e,e',Bj,Bd] at hb1 hb2;exact(hold j b (by omega) hb1 hb2).elim
   .simp only[e,e',Bd] at hb1 hb2;exact hMd j k b (by omega) (by omega) hb1 hb2
 .have hge:i=l.length:=by have:=BQ hf;omega
  subst hge;simp only[Exit.then,Exit.inBlock,Bj];refine At.seq (At.rg (hp2.rgN hnt 2 (τ:=⟨[(2,.loc (.t 7 0) 0 l.length)],[(.t 7 0,.arr 1 (E sV W) false)]⟩) (hτ:=λp hp=>by rw[Au.1 hp];exact⟨λr hr=>aX r hr,rfl⟩) ?_ λa5 w5 S5 p5 hp5=>RgL.nil ?_))
  .simp -dsimp only[go_sem,hlE]
   first|(simp[Vs.LeL,Vs.look,aA];done)
  obtain ⟨hdf,u,ρ,κ,hrun,hxu,hOw,hNw,_⟩:=hp5.resX (fn:=fn) (x:=.loc (.t 7 0) 0 l.length) (by
    rw[hs];show dQ Tryz.prog _ _ [_]
    simp[dQ,qX,Vs.look,dU])
  have hlv:(E sV W).length=l.length:=by rw[aH];exact hWl
  have o0:=hOw (.t 7 0) 1 (E sV W) u rfl (λr hr=>aX r hr) (by rw[hlv];exact hxu);have n0:=λb=>hNw (.t 7 0) b rfl;have p15:=p2.trans p5;have hM5:∀j b,j<W.length->D (M j) b->S5 b:=λj b hj hb=>p15.sub b (hMS j b (by omega) hb).1;refine At.ret ⟨.inl rfl,hdf,_,hrun,u,ρ (.t 7 0),κ (.t 7 0),W,M,rfl,hw0 ▸ hp5.out,o0,hWl,λj hj=>hG _ _ _ _ _ (hdk j hj hj) p15.size λb hb=>p15.old b (hMS j b hj hb).1,λj k b hj hk=>hMd j k b (by omega) (by omega),λj b hj hb e=>(n0 b e).2.2 (hM5 j b hj hb),λb hb=>?_⟩;rw[←hw0];rcases hb with hb|⟨j,hj,hb⟩
  .exact⟨(n0 b hb).1,(n0 b hb).2.1⟩
  .exact⟨(hMS j b (by omega) hb).2,hp5.dom b (hM5 j b hj hb)⟩
def dD {α:Type} (tot:α->Nat):List α->Nat
 | []=>0
 |x::r=>tot x+dD tot r
def mkQ {α:Type} (mk:Nat->α->α) (tot:α->Nat) (k:Nat):List α->List α
 | []=>[]
 |x::r=>mk k x::mkQ mk tot (k+tot x) r
theorem yS {α:Type}{tot:α->Nat}{l:List α}{x:α}:dD tot (l++[x])=dD tot l+tot x:=by
 induction l with
 |nil=>simp[dD]
 |cons y r ih=>simp only[Ae,dD,ih];omega
theorem yR {α:Type}{tot:α->Nat}:∀(l:List α) (i:Nat),dD tot (l.take i)<=dD tot l
 | [],i=>by simp[dD]
 |y::r,0=>by simp[dD]
 |y::r,i+1=>by have:=yR (tot:=tot) r i;simp only[Bh,dD];omega
theorem y8 {α:Type}{mk:Nat->α->α}{tot:α->Nat}:∀(k:Nat) (l:List α),(mkQ mk tot k l).length=l.length
 |_,[]=>rfl
 |k,x::r=>by simp[mkQ,y8 _ r]
theorem aFM {α:Type}{mk:Nat->α->α}{tot:α->Nat}{x:α}:∀(k:Nat) (l:List α),mkQ mk tot k (l++[x])=mkQ mk tot k l++[mk (k+dD tot l) x]
 |k,[]=>by simp[mkQ,dD]
 |k,d::r=>by simp only[Ae,mkQ,aFM _ r,dD,Ck]
theorem aId {α:Type}{mk:Nat->α->α}{tot:α->Nat}:∀{k:Nat}{l:List α}{i:Nat} (h:i<l.length),(mkQ mk tot k l)[i]'(by rw[y8];exact h)=mk (k+dD tot (l.take i)) l[i]
 |k,x::r,0,h=>by simp[mkQ,dD]
 | k,x::r,i+1,h=>by
  have:=aId (mk:=mk) (tot:=tot) (k:=k+tot x) (l:=r) (i:=i) (by simpa using h);simp only[mkQ,List.getElem_cons_succ,this,Bh,dD,Ck]
set_option maxRecDepth 20000 in
theorem aKP {qa f:FuncId}{fn:Func} (ho:cZ Tryz.prog qa fn (lpMk f)) (hn:fn.ntmps=19) (hs:fn.results.toList=[.tmp 4]) (hz:(fn.body.map (zB fn.ntmps (aW Tryz.prog)))=some true) (hf:iO Tryz.prog f)
  {α β:Type}{D:β->Nat->Prop}{G:World->α->Sl->β->Prop}{mk:Nat->α->α}{tot:α->Nat}{K:Nat} (hK:K<=2 ^ 62)
  (hG:∀w w' x s m,G w x s m->w.heap.size<=w'.heap.size->(∀b,D m b->w'.heap[b]? = w.heap[b]?)->G w' x s m) (hL:∀w x s m,G w x s m->∀b,D m b->b<w.heap.size)
  {l:List α} (hF:∀x,x∈l->∀(k:Nat) (S:Nat->Prop) (w:World) (s:Sl) (m:β),0<k->k+tot x<=K->(∀b,S b->b<w.heap.size)->(∀b,D m b->¬S b)->G w x s m->Calls Tryz.prog f #[slW s,.int .i64 (k:Nat)] w λe w'=>e=.returned (.int .i64 (k+tot x:Nat))∧w.heap.size<=w'.heap.size∧(∀b,b<w.heap.size->¬D m b->w'.heap[b]? = w.heap[b]?)∧(w'.os=w.os∧w'.output=w.output)∧G w' (mk k x) s m)
  {V:List Sl}{M:Nat->β} (ha:l.length=V.length) (hV:V.length<=1048576) {k0:Nat} (qw:0<k0) (hk:k0+dD tot l<=K) {S:Nat->Prop}{w:World}{v:Value} (hS:∀b,S b->b<w.heap.size) (he:Env S w) (qp:∀i b,i<V.length->D (M i) b->¬S b) (h0:RC S w (.sl 1 (E sV V)) v)
  (hg:∀i (h:i<l.length),G w l[i] (V.getD i default) (M i)) (hd:∀i j b,i<V.length->j<V.length->D (M i) b->D (M j) b->i=j) :
  Calls Tryz.prog qa #[v,.int .i64 (k0:Nat)] w λe w'=>e=.returned (.int .i64 (k0+dD tot l:Nat))∧w.heap.size<=w'.heap.size∧(∀b,b<w.heap.size->(∀i,i<V.length->¬D (M i) b)->w'.heap[b]? = w.heap[b]?)∧(w'.os=w.os∧w'.output=w.output)∧∀i (h:i<(mkQ mk tot k0 l).length),G w' (mkQ mk tot k0 l)[i] (V.getD i default) (M i):=by
 obtain⟨wO,rfl⟩:∃x,x=w:=⟨_,rfl⟩;obtain⟨h1,h2,_⟩:=ho;obtain⟨qv,H,hc⟩:=AY.1 h2;rw[H] at hz;have hl:=bB Tryz.mixed;have O:(E sV V).length=V.length:=aH _
 let DD:Nat->Prop:=λb=>∃i,i<V.length∧D (M i) b
 have hA:∀b,DD b->b<wO.heap.size:=by
  rintro b ⟨i,hi,H⟩;exact hL _ _ _ _ (hg i (Nat.lt_of_lt_of_eq hi ha.symm)) b H
 have hB:∀b,DD b->¬S b:=by
  rintro b ⟨i,hi,H⟩;exact qp i b hi H
 refine vV (dr:=aW Tryz.prog) (ac:=lpMk f) (S:=S) h1 H hc (by simpa using hz) (args:=[.sl 1 (E sV V),.v (.int .i64 (k0:Int))]) (by rw[hn];exact Bc rfl) hS he rfl (λj hj=>?_) DD λa F=>?_
 .match j,hj with
  |0,_=>exact h0
  |1,_=>exact .v _
 generalize hr:(⟨fn.ntmps,wO,S,DD,λ_=>none,λ_=>0,λ_=>none⟩:Ctx)=C0 at F;have qq:C0.nt=fn.ntmps:=by rw[←hr]
 have hv:C0.w0=wO:=by rw[←hr]
 have hM:∀b,DD b->C0.Mut b:=λb h=>by rw[←hr];exact h
 have h6:=F.later;have qd:=F.hid (D:=DD) hA hB (λb _ n hn=>by simp[St.f,aA] at hn);have hw:=F.anew
 let GG:World->List α->Prop:=λw m=>m.length=V.length∧∀i (h:i<m.length),G w m[i] (V.getD i default) (M i)
 generalize qh:C0.anew wO S _ _=C1 at h6 qd hw;have qj:GG C1.w0 l:=by rw[←qh];exact⟨ha,hg⟩
 have Z:C1.nt=fn.ntmps:=h6.nt.trans qq;unfold lpMk;refine At.step ⟨[(0,.sl 1 (E sV V)),(1,.v (.int .i64 (k0:Int)))],[]⟩ hl hw Z ?_ λa w1 S1 ρ1 κ1 F=>?_
 .simp -dsimp only[go_sem,O]
  try simp[Vs.LeL,Vs.look,aA]
 refine At.seq (At.step ⟨[(0,.sl 1 (E sV V)),(1,.v (.int .i64 (k0:Int))),(5,.v (.int .i64 ((0:Nat):Int)))],[]⟩ hl F Z ?_ λa w3 S3 ρ3 κ3 F=>?_)
 .simp -dsimp only[go_sem,O]
  try simp[Vs.LeL,Vs.look,aA]
 refine At.block ?_
 let T:Nat->Nat->St:=λi kk=>⟨[(0,.sl 1 (E sV V)),(1,.v (.int .i64 (kk:Int))),(5,.v (.int .i64 (i:Int)))],[]⟩
 let I:Nat->Act->World->Prop:=λn a w=>∃(i kk:Nat) (m:List α) (C:Ctx) (S:Nat->Prop) (ρ:Vs.Name->Option Nat) (κ:Vs.Name->Nat),n=V.length-i∧i<=V.length∧kk=k0+dD tot (l.take i)∧m=mkQ mk tot k0 (l.take i)++l.drop i∧C.nt=fn.ntmps∧Later C0 C∧OK C (T i kk).f a w S ρ κ∧Hid C DD (.v undef) undef∧GG C.w0 m
 refine At.loop I (λn a w hI=>?_) (n:=V.length) ⟨0,k0,l,C1,S3,ρ3,κ3,by omega,by omega,by simp[dD],by simp[mkQ],Z,h6,F,qd,qj⟩;obtain⟨i,kk,m,C,S,ρ,κ,qy,hi,h5,hu,J,ht,F,hh,L⟩:=hI;have qx:=yR (tot:=tot) l i;refine At.seq (At.fw hl F J (N:=fun σ'=>LeL σ' (T i kk)∧i<V.length) (E:=λe σ'=>match e with|.exit j=>j=0∧LeL σ' (T i kk)∧i=V.length|.ret=>False) ?_ (λa w hg=>?_) (λj a w hg=>?_) (λa w hg=>hg.no.elim))
 .simp only[T];simp -dsimp only[go_sem,O];refine Br.mk (λhc=>?_) λhc=>?_
  .have U:i<V.length:=by have:=BJ hc;omega
   try simp -dsimp only[go_sem,O]
   exact⟨by simp[Vs.LeL,Vs.look,aA],U⟩
  .have ql:i=V.length:=by have:=BQ hc;omega
   try simp -dsimp only[go_sem,O]
   exact⟨by simp[Vs.LeL,Vs.look,aA],ql⟩
 rotate_left
 .obtain⟨σ',S',ρ',κ',⟨rfl,h7,rfl⟩,hp⟩:=hg;have F:=hp.le h7;simp only[Exit.then,Exit.inBlock,Bj];refine At.step ⟨[(4,.v (.int .i64 (kk:Int)))],[]⟩ hl F J ?_ λa w4 S4 ρ4 κ4 Y=>?_
  .simp only[T]
   try simp -dsimp only[go_sem,O]
   simp[Vs.LeL,Vs.look,aA]
  refine At.ret ⟨.inl rfl,Y.defers,?_⟩
  obtain ⟨x,v,qt,qu,qg⟩:=mE Y (fn:=fn) (K:=λx=>x=.v (.int .i64 (kk:Int))) (by
    rw[hs];show dQ Tryz.prog _ _ [_]
    simp[dQ,qX,Vs.look,dU])
  subst qt;have hy:=Y.back ht;refine⟨v,qg,by rw[bE qu,h5,←ha,Bv],by have:=hy.size;rw[hv] at this;exact this,λb H qe=>?_,by have:=hy.out;rw[hv] at this;exact this,?_⟩
  .have:=hy.old b (by rw[hv];exact H) (by rw[←hr];rintro⟨i,hi,H⟩;exact qe i hi H);rw[hv] at this;exact this
  .rw[←ha,Bv,CV,Be] at hu;subst hu;exact λi hi=>hG _ _ _ _ _ (L.2 i hi) (by have:=Y.size;exact this) λb H=>(hh.same Y).1 b ⟨i,by rw[←L.1];exact hi,H⟩
 obtain⟨σ',S',ρ',κ',⟨h7,U⟩,hp⟩:=hg;have F:=hp.le h7;have h3:(E sV V).getD i []=[.v (slW V[i])]:=aN U;have hm:i<l.length:=by omega
 have hq:(mkQ mk tot k0 (l.take i)).length=i:=by rw[y8,BM];omega
 have qn:i<m.length:=by rw[L.1];exact U
 have qo:m[i]=l[i]:=by
  subst hu;rw[List.getElem_append_right (by omega)];simp[hq]
 have qb:V.getD i default=V[i]:=by simp[U]
 have qm:kk+tot l[i]<=K:=by
  have:=yR (tot:=tot) l (i+1);rw[aY hm,yS] at this;omega
 have qs:=aG U hV;show At Tryz.prog _ _ (.seq _ _) _ a w
 refine At.seq (At.block (At.mark (R:=λw'=>GG w' (m.set i (mk kk l[i]))) (τ:=⟨[(15,.v (slW V[i])),(16,.v (.int .i64 (kk:Int))),(0,.sl 1 (E sV V)),(1,.v (.int .i64 (kk:Int))),(5,.v (.int .i64 (i:Int)))],[]⟩) (τ':=T i (kk+tot l[i])) F J ht hh hM (pre:=[⟨some 12,.mv (.tmp 0),none⟩,⟨some 13,.mv (.tmp 5),none⟩,⟨some 14,.idxSl 1 (.tmp 12) (.tmp 13),none⟩,⟨some 15,.load false 1 (.tmp 14),none⟩,⟨some 16,.mv (.tmp 1),none⟩]) (post:=[⟨some 1,.mv (.tmp 17),none⟩]) (ts:=[15,16]) (vs:=[slW V[i],.int .i64 (kk:Int)]) (u:=.int .i64 ((kk+tot l[i]:Nat):Int)) hf (by rw[hn];omega) ?_ rfl (λj hj=>by match j,hj with|0,_=>rfl|1,_=>rfl) (λw S qc he qi qr h8=>?_) ?_ λa w C S ρ κ F J ht hh L=>?_))
 .simp only[T];simp -dsimp only[go_sem,h3,O];exact⟨⟨by omega,by omega⟩,by simp[Vs.LeL,Vs.look,aA]⟩
 .have h9:∀j (h:j<m.length),G w m[j] (V.getD j default) (M j):=λj h=>hG _ _ _ _ _ (L.2 j h) qr λb H=>h8 b ⟨j,by rw[←L.1];exact h,H⟩;have qk:G w l[i] V[i] (M i):=by have:=h9 i qn;rwa [qo,qb] at this
  refine(hF _ (Aa hm) kk S w V[i] (M i) (by omega) qm qc (λb H=>qi b ⟨i,U,H⟩) qk).mono ?_;rintro e w' ⟨rfl,q1,q2,q3,q4⟩;refine⟨rfl,q1,λb H hd=>q2 b H λhx=>hd ⟨i,U,hx⟩,q3,by rw[Am];exact L.1,λj hj=>?_⟩;have h4:j<m.length:=by simpa using hj
  rw[List.getElem_set];split
  .subst_vars;rw[qb];exact q4
  .rename_i e;exact hG _ _ _ _ _ (h9 j h4) q1 λb H=>q2 b (hL _ _ _ _ (h9 j h4) b H) λhx=>e (hd i j b U (by rw[←L.1];exact h4) hx H)
 .simp only[T];simp -dsimp only[go_sem,h3,O];simp[Vs.LeL,Vs.look,aA]
 show At Tryz.prog _ _ (.region _ _ _) _ a w
 refine At.fw hl F J (N:=fun σ'=>LeL σ' (T (i+1) (kk+tot l[i]))) (E:=λ_ _=>False) ?_ (λa w hg=>?_) (λj a w hg=>hg.no.elim) (λa w hg=>hg.no.elim)
 .simp only[T];simp -dsimp only[go_sem,h3,O];simp[Vs.LeL,Vs.look,aA,qs]
 obtain⟨S6,ρ6,κ6,qf⟩:=hg.le;refine⟨V.length-(i+1),by omega,i+1,kk+tot l[i],_,C,S6,ρ6,κ6,rfl,by omega,?_,?_,J,ht,qf,hh,L⟩
 .rw[aY hm,yS,h5];omega
 .rw[aY hm,aFM,hu,←h5,Cy _ _ (by omega),hq,Cw,BS hm,Ac];simp
theorem aK5 {fid f:FuncId}{fn:Func} (ho:cZ Tryz.prog fid fn (lpHl f)) (hn:fn.ntmps=21) (hs:fn.results.toList=[.tmp 4]) {α:Type}{mk:Nat->α->α}{tot:α->Nat}{kk:Nat}{c:α->List (List AV)}{K:Nat} (hK:K<=2 ^ 62)
  {l:List α} (hF:∀x,x∈l->∀k:Nat,0<k->k+tot x<=K->Vs.Fn Tryz.prog f [] [.sl kk (c (mk k x)),.v (.int .i64 (k:Nat))] (.v (.int .i64 (k+tot x:Nat))) []) (hl:l.length<=1048576) {k0:Nat} (hk0:0<k0) (hk:k0+dD tot l<=K) :
  Vs.Fn Tryz.prog fid [] [.sl 1 (E (λx=>[.sl kk (c x)]) (mkQ mk tot k0 l)),.v (.int .i64 (k0:Nat))] (.v (.int .i64 (k0+dD tot l:Nat))) []:=by
 have hlr:(mkQ mk tot k0 l).length=l.length:=y8 k0 l;refine ho.fn0 Tryz.mixed hn hs rfl λX=>?_;unfold lpHl;simp -dsimp only[go_sem];refine aM.at dM (X:={i:Nat // i<=l.length}) (λi=>[(1,.v (.int .i64 (k0+dD tot (l.take i.1):Nat))),(5,.v (.int .i64 i.1))]) (λi=>[]) (λi=>l.length-i.1) ⟨0,by omega⟩ ?_ ?_
 .simp[Vs.LeL,Vs.look,aA,aS,aJ,Vs.hset,aK,dD]
 .rintro⟨i,hi⟩;simp -dsimp only[go_sem,hlr];refine Br.mk (λhc'=>?_) λhc'=>?_
  .have hlt:i<l.length:=by simpa using hc'
   have hw:=aG hlt hl
   have hgi:(E (λx=>[.sl kk (c x)]) (mkQ mk tot k0 l)).getD i []=[.sl kk (c (mk (k0+dD tot (l.take i)) l[i]))]:=by
    rw[aN (by rw[hlr];exact hlt),aId hlt]
   have hb:k0+dD tot (l.take i)+tot l[i]<=K:=by
    have:=yR (tot:=tot) l (i+1);rw[aY hlt,yS] at this;omega
   have H:=hF l[i] (Aa hlt) (k0+dD tot (l.take i)) (by omega) hb;have hn:decide (((k0+dD tot (l.take i)+tot l[i]:Nat):Int)<0)=false:=AO (by omega);have hs':k0+dD tot (l.take i)+tot l[i]=k0+dD tot (l.take (i+1)):=by rw[aY hlt,yS];omega
   rw[hs'] at H hn
   repeat' first|simp -dsimp only[go_sem,hw,hgi,hlr,hn]|apply Br.mk<;>intro h<;>try simp -dsimp only[h]|refine aB.c (by first|exact H) ?_|refine aC ?_|fail
   all_goals first|(exact⟨⟨i+1,by omega⟩,by simp[Vs.LeL,Vs.look,aA,aS,aJ,Vs.hset,aK],by simp only;omega⟩)
  .have hge:i=l.length:=by
    have:¬i<l.length:=by simpa using hc'
    omega
   subst hge;simp -dsimp only[go_sem]
   first|done|simp
end Go.Proofs.YtkgeiaideklmoaaGreat
