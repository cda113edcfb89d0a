/- A step of the program answers an office in memory of its own: the walk. -/
import Derived.Test.YtkgeiaideklmoaaGreatZwDd
import Derived.Test.YtkgeiaideklmoaaGreatZwDf
import Derived.Test.YtkgeiaideklmoaaGreatZwVq
import Derived.Test.YtkgeiaideklmoaaGreatVtR
set_option linter.all false
set_option maxHeartbeats 8000000
namespace Go.Proofs.YtkgeiaideklmoaaGreat
open Go.Vs
section
variable [Vs.Envs]
attribute [local irreducible] Vs.Fn bA mgC iM mtC iP oC mat dkC dkL jS lM wO fM lT fI aV pun cmT zR aA0 bK aO bL bM l03 chB rk cd3 chI stp aP
attribute [local go_sem] aH Af Ag Al Aq Ae Ai Ac Ak Ab Ah Am Aw cD Au Vs.Name.t.injEq Ap Ao AX BH in
theorem aIP (l:List (List Int)) (fr to sf st:Int) (ho:∀c,c∈l->okF fr to c) (hp:∀c,c∈l->okP sf st c) (hl:l.length<=1048576) (hN:tX sf st l=true) (hC:bV fr to l=true):Vs.Fn Tryz.prog F.mQ [] [.sl 1 (E cC l),.agg (cFd fr to),.agg (cFd sf st)] (.tup [.loc (.b 0) 0 (jX fr to sf st l).length,.v (.int .i64 0)]) [some (.arr 2 (E cTt (jX fr to sf st l)) false)]:=by
 have SO:=aEE l sf st hp hl;have HF:=pR l fr to ho hl;have GR:=groups l fr to ho hl;rw[hN] at SO;rw[hC] at HF;have hb:jS fr to sf st l=true:=by simp[jS,hN,hC]
 have hgm:∀g,g∈aA0 fr to l->0<g.length∧g.length<=l.length∧∀c,c∈g->c∈l:=λg hg=>aC6 hg;have hGl:=aC7 fr to l;unfold jX;generalize aA0 fr to l=G at *
 rw[Bg];refine fn1 Cd.i_totalsOf_k [.t 10 0] [.arr 2 (E cTt (G.map λg=>(txt (fH fr to (g.getD 0 [])),fM sf st g))) false] λX=>?_;unfold Cd.mQ
 repeat' first|simp -dsimp only[go_sem,cC,cFd]|apply Br.mk<;>intro h<;>try simp -dsimp only[h]|refine aB.c (by first|exact SO|exact HF|exact GR) ?_|refine aC ?_|fail
 refine aM.at dM (X:={zz:Nat×(Unit) // zz.1<=G.length∧True}) (λzz=>[(10,.loc (.t 10 0) 0 zz.1.1),(35,.v (.int .i64 zz.1.1))]) (λzz=>[(.t 10 0,.arr 2 (E cTt ((G.take zz.1.1).map λg=>(txt (fH fr to (g.getD 0 [])),fM sf st g))) false)]) (λzz=>G.length-zz.1.1) ⟨(0,()),by omega,trivial⟩ ?_ ?_
 .simp[Vs.LeL,Vs.look,aA,aS,aJ,Vs.hset,aK,Vs.E]
 .rintro⟨⟨i,_⟩,hi,hg⟩;dsimp only at hi hg;simp -dsimp only[go_sem,cC,cFd];refine Br.mk (λhc=>?_) λhc=>?_
  .have hlt:i<G.length:=Dq;have hw:=aG hlt (by omega);obtain⟨g0,g1,g2⟩:=hgm _ (Aa hlt);have hgi:(E cD G).getD i []=[.sl 1 (E cC G[i])]:=aN hlt;have SG:=aEE G[i] sf st (λc hc=>hp c (g2 c hc)) (by omega);have hNg:tX sf st G[i]=true:=Az.2 λc hc=>Az.1 hN c (g2 c hc);rw[show aAx sf st G[i]=.sl 1 (E cI [fM sf st G[i]]) by simp[aAx,hNg],hNg] at SG;have hm0:G[i].getD 0 []∈G[i]:=by rw[show G[i].getD 0 []=G[i][0] by simp[List.getD,g0]];exact Aa g0
   have hg0:(E cC G[i]).getD 0 []=[.sl 1 (E cI (G[i].getD 0 []))]:=by rw[aN g0];simp[cC,List.getD,g0]
   have FT:=aEe (G[i].getD 0 []) fr to (ho _ (g2 _ hm0)) (Az.1 hC _ (g2 _ hm0));have hs0:(E cI [fM sf st G[i]]).getD 0 []=[.v (.int .i64 (fM sf st G[i]))]:=rfl
   have hap:E cTt ((G.take i).map λg=>(txt (fH fr to (g.getD 0 [])),fM sf st g))++[[.v (.string (txt (fH fr to (G[i].getD 0 [])))),.v (.int .i64 (fM sf st G[i]))]]=E cTt ((G.take (i+1)).map λg=>(txt (fH fr to (g.getD 0 [])),fM sf st g)):=by
    rw[aY hlt,Bu,bH];rfl
   have hal:(E cTt ((G.take i).map λg=>(txt (fH fr to (g.getD 0 [])),fM sf st g))).length=i:=by rw[aH];simp;omega
   simp -dsimp only[go_sem,hgi,hg0,hs0,hw,hal,cC,cFd]
   repeat' first|simp -dsimp only[go_sem,hgi,hg0,hs0,hw,hap,hal,cC,cFd]|apply Br.mk<;>intro h<;>try simp -dsimp only[h]|refine aB.c (by first|exact SG|exact FT) ?_|refine aC ?_|fail
   all_goals first|omega|(exact nx (i+1,()) trivial (h2:=by simp[Vs.LeL,Vs.look,aA,aS,aJ,Vs.hset,aK,hap]))
  .have hge:i=G.length:=by
    have:¬i<G.length:=Dq;omega
   subst hge;simp -dsimp only[go_sem,cC,cFd]
   have htk:(E cTt ((G.take G.length).map λg=>(txt (fH fr to (g.getD 0 [])),fM sf st g))).take G.length=E cTt (G.map λg=>(txt (fH fr to (g.getD 0 [])),fM sf st g)):=by
    rw[Aj (Ar G.length)];exact Aj (by rw[aH];simp)
   first|exact⟨⟨_,_,rfl,rfl⟩,λh=>h rfl⟩|(rw[htk];exact⟨⟨_,_,rfl,rfl⟩,λh=>h rfl⟩)|(simp[htk];done)
theorem OfM.snocS {w w':World}{T:List (List (List Int))}{U:List (List Tot)}{tv sv ha Z:Value}{m:OM} (h:OfM w ⟨T,U⟩ tv sv m) (hs:w.heap.size<=w'.heap.size) (he:∀i b,i<m.TV.length->(m.M i).D b->w'.heap[b]? = w.heap[b]?) (hf:∀i b,i<m.SV.length->m.ys i=some b->w'.heap[b]? = w.heap[b]?)
  {xt xs L:Option Nat}{ct cx c6:Nat}{s:Sl}{t:List Tot} (o0:Vs.Own (λ_=>False) w' xt ct 1 (E sV m.TV) ha) (o1:Vs.Own (λ_=>False) w' xs cx 1 (E sV (m.SV++[s])) Z) (o6:Vs.Own (λ_=>False) w' L c6 2 (E cT t) (slW s))
  (h6:∀b,L=some b->(∀i,i<m.TV.length->¬(m.M i).D b)∧∀i,i<m.SV.length->m.ys i≠some b) (I:∀b,xt=some b->xs≠some b∧L≠some b∧(∀i,i<m.TV.length->¬(m.M i).D b)∧∀i,i<m.SV.length->m.ys i≠some b) (Y:∀b,xs=some b->L≠some b∧(∀i,i<m.TV.length->¬(m.M i).D b)∧∀i,i<m.SV.length->m.ys i≠some b)
  (O:∀b,xt=some b∨xs=some b∨L=some b->b<w'.heap.size) :
  OfM w' ⟨T,U++[t]⟩ ha Z ⟨xt,ct,m.TV,m.M,xs,cx,m.SV++[s],λj=>if j=(m.SV.map slW).length then L else m.ys j,λj=>if j=(m.SV.map slW).length then c6 else m.cs j⟩:=by
 have hl:(m.SV.map slW).length=m.SV.length:=Bg _;have hc:=h.sl.mono (w':=w') (λ_ _ _ _ h=>h) λi b hi F=>hf i b (by simpa using hi) F;have hd:=hc.snoc o6 (λi b hi F e=>(h6 b e).2 i (by simpa using hi) F)
 have hy:∀j b,j<(m.SV++[s]).length->(if j=(m.SV.map slW).length then L else m.ys j)=some b->(L=some b)∨∃i,i<m.SV.length∧m.ys i=some b:=λj b J F=>by
  split at F
  .exact .inl F
  .exact .inr ⟨j,by simp at J;omega,F⟩
 refine⟨o0,h.tn,λi hi=>(h.dk i hi).same hs λb F=>he i b hi F,h.tdis,λi b hi F e=>(I b e).2.2.1 i hi F,o1,?_,λj b J F e=>?_,λb H h2=>?_,λb F=>?_⟩
 .show mD _ w' 2 ((U++[t]).map (E cT)) ((m.SV++[s]).map slW) _ _
  rw[Bu,Bu];exact hd
 .rcases hy j b J F with g|⟨i,hi,g⟩
  .exact(Y b e).1 g
  .exact(Y b e).2.2 i hi g
 .rcases H with H|⟨i,hi,H⟩<;>rcases h2 with h2|⟨j,J,h2⟩
  .exact(I b H).1 h2
  .rcases hy j b J h2 with g|⟨k,hk,g⟩
   .exact(I b H).2.1 g
   .exact(I b H).2.2.2 k hk g
  .exact(Y b h2).2.1 i hi H
  .rcases hy j b J h2 with g|⟨k,hk,g⟩
   .exact(h6 b g).1 i hi H
   .exact h.dis b (.inr ⟨i,hi,H⟩) (.inr ⟨k,hk,g⟩)
 .rcases F with(F|⟨i,hi,F⟩)|(F|⟨j,J,F⟩)
  .exact O b (.inl F)
  .exact AZ (h.lt b (.inl (.inr ⟨i,hi,F⟩))) hs
  .exact O b (.inr (.inl F))
  .rcases hy j b J F with g|⟨k,hk,g⟩
   .exact O b (.inr (.inr g))
   .exact AZ (h.lt b (.inr (.inr ⟨k,hk,g⟩))) hs
theorem OfM.setT {w w':World}{T:List (List (List Int))}{U:List (List Tot)}{tv sv he hc:Value}{m:OM} (h:OfM w ⟨T,U⟩ tv sv m) (hs:w.heap.size<=w'.heap.size) (hg:∀i b,i<m.TV.length->(m.M i).D b->w'.heap[b]? = w.heap[b]?) (hh:∀i b,i<m.SV.length->m.ys i=some b->w'.heap[b]? = w.heap[b]?)
  {xt xs:Option Nat}{ct cx I:Nat}{s:Sl}{d:List (List Int)}{Z:Vs.Mem} (hl:I<m.TV.length) (o0:Vs.Own (λ_=>False) w' xt ct 1 (E sV (m.TV.set I s)) he) (o1:Vs.Own (λ_=>False) w' xs cx 1 (E sV m.SV) hc) (hd:Vs.Dk w' (d.map (E cI)) (slW s) Z)
  (h6:∀b,Z.D b->¬m.D b) (L:∀b,xt=some b->xs≠some b∧¬Z.D b∧(∀i,i<m.TV.length->¬(m.M i).D b)∧∀i,i<m.SV.length->m.ys i≠some b) (Y:∀b,xs=some b->¬Z.D b∧(∀i,i<m.TV.length->¬(m.M i).D b)∧∀i,i<m.SV.length->m.ys i≠some b)
  (ha:∀b,xt=some b∨xs=some b->b<w'.heap.size) :
  OfM w' ⟨T.set I d,U⟩ he hc ⟨xt,ct,m.TV.set I s,λj=>if j=I then Z else m.M j,xs,cx,m.SV,m.ys,m.cs⟩:=by
 have hM:∀j b,j<m.TV.length->(if j=I then Z else m.M j).D b->(j=I∧Z.D b)∨(j≠I∧(m.M j).D b):=λj b F H=>by
  split at H
  .rename_i e;exact .inl ⟨e,H⟩
  .rename_i e;exact .inr ⟨e,H⟩
 refine⟨o0,by rw[Am,Am];exact h.tn,λj F=>?_,λj k b F O J h2=>?_,λj b F H e=>?_,o1,h.sl.mono (λ_ _ _ _ h=>h) λi b hi H=>hh i b (by simpa using hi) H,λj b F H e=>(Y b e).2.2 j F H,λb J h2=>?_,λb H=>?_⟩
 .rw[Am] at F;have hf:j<T.length:=by have:=h.tn;simp only at this;omega
  by_cases e:j=I
  .subst e;have e1:(T.set j d).getD j []=d:=by simp[hf]
   have e2:(m.TV.set j s).getD j default=s:=by simp[F]
   simp only[Bj];rw[e1,e2];exact hd
  .have e1:(T.set I d).getD j []=T.getD j []:=by
    simp only[A8];rw[Da (DN e)]
   have e2:(m.TV.set I s).getD j default=m.TV.getD j default:=by
    simp only[A8];rw[Da (DN e)]
   simp only[e,Bd];rw[e1,e2];exact(h.dk j F).same hs λb H=>hg j b F H
 .rw[Am] at F O;rcases hM j b F J with⟨e,g⟩|⟨e,g⟩<;>rcases hM k b O h2 with⟨e',g'⟩|⟨e',g'⟩
  .rw[e,e']
  .exact(h6 b g (.inl (.inr ⟨k,O,g'⟩))).elim
  .exact(h6 b g' (.inl (.inr ⟨j,F,g⟩))).elim
  .exact h.tdis j k b F O g g'
 .rw[Am] at F;rcases hM j b F H with⟨_,g⟩|⟨_,g⟩
  .exact(L b e).2.1 g
  .exact(L b e).2.2.1 j F g
 .rcases J with J|⟨j,F,J⟩<;>rcases h2 with h2|⟨k,O,h2⟩
  .exact(L b J).1 h2
  .exact(L b J).2.2.2 k O h2
  .rw[show(m.TV.set I s).length=m.TV.length from Am ..] at F;rcases hM j b F J with⟨_,g⟩|⟨_,g⟩
   .exact(Y b h2).1 g
   .exact(Y b h2).2.1 j F g
  .rw[show(m.TV.set I s).length=m.TV.length from Am ..] at F;rcases hM j b F J with⟨_,g⟩|⟨_,g⟩
   .exact h6 b g (.inr (.inr ⟨k,O,h2⟩))
   .exact h.dis b (.inr ⟨j,F,g⟩) (.inr ⟨k,O,h2⟩)
 .rcases H with(H|⟨j,F,H⟩)|(H|⟨j,F,H⟩)
  .exact ha b (.inl H)
  .rw[show(m.TV.set I s).length=m.TV.length from Am ..] at F;rcases hM j b F H with⟨_,g⟩|⟨_,g⟩
   .exact hd.lt b g
   .exact AZ (h.lt b (.inl (.inr ⟨j,F,g⟩))) hs
  .exact ha b (.inr H)
  .exact AZ (h.lt b (.inr (.inr ⟨j,F,H⟩))) hs
theorem aNx (V:List Sl) (i:Nat) (s:Sl):(E sV V).set i [.v (.slice s.1 s.2.1 s.2.2)]=E sV (V.set i s):=by simp[E,De,sV]
end
section
variable [Vs.Envs]
attribute [local irreducible] Vs.Fn bA mgC iM mtC iP oC mat tX dkC dkL jS jX lM wO bK aO bL bM l03 chB rk cd3 chI stp aP
theorem aJ8 {x:Stp}{o:Off} (h0:dsC x o=0):lM x (wO o.trays)=true∧(x.kind=7->o.totals.length<20∧jS x.f0 x.f1 x.s0 x.s1 (tr o.trays x.a)=true)∧(x.kind≠7->dkC x (tr o.trays x.a) (tr o.trays x.b)=0):=by
 have H:lM x (wO o.trays)=true:=by
  unfold dsC at h0;split at h0
  .assumption
  .cases h0
 refine⟨H,λF=>?_,λF=>by rw[aNf H F] at h0;exact h0⟩;rw[aLn H F] at h0;split at h0
 .cases h0
 .split at h0
  .exact⟨by omega,by assumption⟩
  .cases h0
theorem aHK {c:Value}{vs:Array Value} (h:2=vs.size) (F:vs.getD 1 undef=c):vs=#[vs.getD 0 undef,c]:=by rw[uJ h,F];rfl
abbrev oW (m:OM):Vs.Blk:=.var [.loc (.t 30 0) 0 m.TV.length,.loc (.t 30 1) 0 m.SV.length] false
abbrev uE (T:List (List (List Int))) (U:List (List Tot)):AV:=.agg [.sl 1 (E cD T),.sl 1 (E cTs U)]
attribute [local go_sem] Bh Bz pP nW oW uE Int.reduceBEq Int.reduceBNe cC cFd Af Ag Al Aq Ae Ai Ac Ak Ab Ah Am aH cD cTs cS cO cP in
set_option maxRecDepth 20000 in
theorem aJB (x:Stp) (q5:x.text.size<=1048576) (T:List (List (List Int))) (U:List (List Tot)) (wd:Nat) (ho:okO wd ⟨T,U⟩) (h0:dsC x ⟨T,U⟩=0) {S:Nat->Prop}{w:World}{vs:Array Value} (hS:∀b,S b->b<w.heap.size) (he:Env S w) (qa:vs.size=2) (qg:∀j,j<2->RC S w (([uE T U,.agg (cS x)]:List AV).getD j .junk) (vs.getD j undef)):Calls Tryz.prog F.qN vs w (λe0 w0=>∃tv sv,e0=.returned (.tuple #[.agg #[tv,sv],.int .i64 0])∧kY w w0∧aBa w w0 (stO x ⟨T,U⟩) tv sv):=by
 obtain⟨hv,qw,jc⟩:=aJ8 h0;have qn:=eG ho;have hx:=wD ho hv;have ma:tr T x.a∈T:=gJ hx.a;have ga:(E cD T).getD x.a.toNat []=[.sl 1 (E cC (tr T x.a))]:=iK hx.a;have a0:=hx.a.1;have a1:x.a<(T.length:Int):=hx.a.2;have t0:=hx.to.1;have t1:x.to<(T.length:Int):=hx.to.2;have qx:(E cD T).length=T.length:=aH _;have jo:(E cTs U).length=U.length:=aH _;have qm:wG T:=qn.1;have q4:rE U:=qn.2;obtain⟨g1,g2,_⟩:=Cd.i_doStep_k.o;obtain⟨jk,H,hc⟩:=AY.1 g2;have hz:(Tryz.f56.body.map (zB Tryz.f56.ntmps (aW Tryz.prog)))=some true:=by kernel_rfl
 rw[H] at hz;have jb:=bB Tryz.mixed;refine Vs.Pt.calls (dr:=aW Tryz.prog) (ac:=Cd.qN) g1 H hc (by simpa using hz) (args:=[uE T U,.agg (cS x)]) (by rw[Cd.i_doStep_k.n];exact Bc rfl) hS he qa qg λC1 a I L qs hp=>?_;unfold Cd.qN
 refine hp.goS (τ:=⟨[pP 2,pP 3,pP 4],[(.t 2 0,.var [.sl 1 (E cD T),.sl 1 (E cTs U)] false),(.t 3 0,.var (cS x) false),(.t 4 0,nW)]⟩) jb I 1 _ (E:=λ_ _=>False) [(.t 3 0,.var (cS x) false),(.t 4 0,nW)] (λp hp=>by
     simp only[Ap,Ao,AX] at hp;rcases hp with rfl|rfl<;>exact⟨rfl,rfl,rfl⟩) [(2,.ro [.sl 1 (E cD T),.sl 1 (E cTs U)]),pP 3,pP 4] (λp hp=>?_) (λC hC=>?_) (λi σ h=>h) (λC a w hl hg=>hg.no.elim) λI1 a1 w1 S1 p1 jf=>?_
 .simp only[Ap,Ao,AX] at hp;rcases hp with rfl|rfl|rfl
  .exact .inr ⟨rfl,_,rfl,λn hn=>by
     have:n=.t 2 0:=by simpa using hn
     subst this;rfl⟩
  .exact .inl ⟨rfl,rfl⟩
  .exact .inl ⟨rfl,rfl⟩
 .simp -dsimp only[go_sem]
  first|(simp[Vs.LeL,Vs.look,aA];done)
 have OC:Fz F.fE [uE T U] (.v (.int .i64 (wO T))):=lS ⟨T,U⟩ qn;have VS:=yB x (wO T:Int) q5;rw[show(wO T:Int)=wO (⟨T,U⟩:Off).trays from rfl,aM5 ho,CX,hv] at VS;have hk:(x.kind==7)=true->((U.length:Int)==20)=false:=λh=>AC.2 (by have:=(qw (BN.1 h)).1;simp only at this;omega);obtain⟨q7,e7⟩:∃q,(x.kind==7)=q:=⟨_,rfl⟩;rw[e7] at hk;refine jf.goT dM I 1 _ (τ:=⟨[(2,.ro [.sl 1 (E cD T),.sl 1 (E cTs U)]),pP 3,pP 4],[(.t 3 0,.var (cS x) false),(.t 4 0,nW)]⟩) (λC hC=>?_) λa2 w2 S2 p2 jg=>?_
 .cases q7
  all_goals
   repeat' first|simp -dsimp only[go_sem,e7,hk]|apply Br.mk<;>intro h<;>try simp -dsimp only[h]|refine aB.c (by first|exact VS|exact OC) ?_|refine aC ?_|fail
  all_goals first|(simp[Vs.LeL,Vs.look,aA];done)|exact⟨by simp[Vs.LeL,Vs.look,aA],trivial⟩|omega
 refine At.seq (At.rg (jg.rgN I 1 (τ:=⟨[(29,uE T U),(2,.ro [.sl 1 (E cD T),.sl 1 (E cTs U)]),pP 3,pP 4],[(.t 3 0,.var (cS x) false),(.t 4 0,nW)]⟩) ?_ λa3 w3 S3 p3 ha=>ha.rgc I (ts:=[29]) (ys:=[uE T U]) (jZ Cd.i_newOffice_k.o) rfl rfl λus qq hr=>?_))
 .simp -dsimp only[go_sem,e7,hk]
  first|(simp[Vs.LeL,Vs.look,aA];done)
 refine(aAN T U qm q4 ha.dom ha.env qq hr).mono ?_;rintro e0 w4 ⟨tv,sv,rfl,hg,m,hom,hon⟩;refine⟨_,rfl,?_⟩;have q1:=(ha.grow hg (D:=m.D) (λb H=>⟨hon b H,hom.lt b H⟩) [(2,.ro [.sl 1 (E cD T),.sl 1 (E cTs U)]),pP 3,pP 4] (fvC ⟨rfl,.inr rfl⟩ (fvC ⟨rfl,.inl rfl⟩ (fvC ⟨rfl,.inl rfl⟩ fvN)))).put (d:=30) (by rw[I,Cd.i_doStep_k.n];omega) (.agg #[tv,sv]);have qb:C1.w0.heap.size<=w3.heap.size:=ha.size;have qy:∀b,m.D b->¬S3 b:=λb H h=>by have:=hon b H;have:=ha.dom b h;omega
 have qf:∀b,S3 b->(S3 b∨m.D b)∧m.xt≠some b∧m.xs≠some b:=λb H=>⟨.inl H,λe=>qy b (.inl (.inl e)) H,λe=>qy b (.inr (.inl e)) H⟩
 have q2:=q1.adopt2 (n1:=.t 30 0) (n2:=.t 30 1) (by decide) hom.tr hom.sr (λb e=>⟨by have:=hon b (.inl (.inl e));omega,.inr (.inl (.inl e)),λh=>by rw[qs] at h;have g1:=hS b h;have g2:=hon b (.inl (.inl e));have g3:=qb;rw[L] at g3;omega⟩) (λb e=>⟨by have:=hon b (.inr (.inl e));omega,.inr (.inr (.inl e)),λh=>by rw[qs] at h;have g1:=hS b h;have g2:=hon b (.inr (.inl e));have g3:=qb;rw[L] at g3;omega⟩) (λb e e'=>hom.dis b (.inl e) (.inl e')) (t:=30) (q1.valv rfl) [(2,.ro [.sl 1 (E cD T),.sl 1 (E cTs U)]),pP 3,pP 4] (λp hp=>by
     simp only[Ap,Ao,AX] at hp;rcases hp with rfl|rfl|rfl
     . refine .inr ?_
       have hd:=ha.val (t:=2) rfl;have e:(a3.put (some 30) (.agg #[tv,sv])).tmps.getD 2 undef=a3.tmps.getD 2 undef:=aBQ (by decide);rw[e];exact hd.mono (λb H=>qf b H) λb H=>hg.old b (ha.dom b H)
     . exact .inl ⟨rfl,rfl⟩
     . exact .inl ⟨rfl,rfl⟩) rfl rfl
 rw[show(E sV m.TV).length=m.TV.length from aH _,show(E sV m.SV).length=m.SV.length from aH _] at q2;have qj:(E sV m.TV).length=m.TV.length:=aH _;have qk:(E sV m.SV).length=m.SV.length:=aH _
 letI I5:=Vs.keepE (λb=>(S3 b∨m.D b)∧m.xt≠some b∧m.xs≠some b) w4
 refine q2.rgN I 2 (τ:=⟨[(2,.ro [.sl 1 (E cD T),.sl 1 (E cTs U)]),pP 3,pP 4,pP 6],[(.t 6 0,oW m),(.t 30 1,.arr 1 (E sV m.SV) false),(.t 30 0,.arr 1 (E sV m.TV) false),(.t 3 0,.var (cS x) false),(.t 4 0,nW)]⟩) ?_ λa6 w6 S6 p6 q3=>RgL.nil ?_
 .simp -dsimp only[go_sem,e7,hk]
  first|(simp[Vs.LeL,Vs.look,aA];done)|(and_intros<;>first|omega|(simp[Vs.LeL,Vs.look,aA];done))
 have jq:Vs.Past S3 w3 S6 w6:=⟨λb H=>p6.sub b (qf b H),λb H=>(p6.old b (qf b H)).trans (hg.old b (ha.dom b H)),Bl hg.size p6.size⟩
 have Y:∀i b,i<m.TV.length->(m.M i).D b->S6 b∧w6.heap[b]? = w4.heap[b]?:=λi b hi H=>by
  have g:(S3 b∨m.D b)∧m.xt≠some b∧m.xs≠some b:=⟨.inr (.inl (.inr ⟨i,hi,H⟩)),hom.tout i b hi H,λe=>hom.dis b (.inr ⟨i,hi,H⟩) (.inl e)⟩;exact⟨p6.sub b g,p6.old b g⟩
 have Z:∀i b,i<m.SV.length->m.ys i=some b->S6 b∧w6.heap[b]? = w4.heap[b]?:=λi b hi H=>by
  have g:(S3 b∨m.D b)∧m.xt≠some b∧m.xs≠some b:=⟨.inr (.inr (.inr ⟨i,hi,H⟩)),λe=>hom.dis b (.inl e) (.inr ⟨i,hi,H⟩),hom.sout i b hi H⟩;exact⟨p6.sub b g,p6.old b g⟩
 clear hk e7;by_cases h7:x.kind=7
 .have e7:(x.kind==7)=true:=BN.2 h7;obtain⟨_,qo⟩:=qw h7;have da:=ho.2.2.1 _ ma
  obtain ⟨ji,jh⟩:tX x.s0 x.s1 (tr T x.a)=true∧bV x.f0 x.f1 (tr T x.a)=true:=by
   unfold jS at qo;rw[Av] at qo;exact qo
  refine At.seq (At.seq (At.rg (q3.rgN I 3 (τ:=⟨[(33,.v (.bool true)),(2,.ro [.sl 1 (E cD T),.sl 1 (E cTs U)]),pP 3,pP 4,pP 6],[(.t 6 0,oW m),(.t 30 1,.arr 1 (E sV m.SV) false),(.t 30 0,.arr 1 (E sV m.TV) false),(.t 3 0,.var (cS x) false),(.t 4 0,nW)]⟩) ?_ λa7 w7 S7 p7 hw=>RgL.nil ?_)))
  .simp -dsimp only[go_sem,e7]
   first|(simp[Vs.LeL,Vs.look,aA];done)
  refine hw.cond rfl (λ_=>?_) λh=>(by cases h);have qt:∀l:List Tot,E cTt l=E cT l:=λ_=>rfl;have TO:=aIP (tr T x.a) x.f0 x.f1 x.s0 x.s1 (dF da.1 (wT (nH ho ma) hx.f)) (aEP da.1 (aBo (nH ho ma) (hx.n h7))) (oU ho.1.2 da).1 ji jh;refine hw.goT dM I 2 _ (τ:=⟨[pP 4,pP 6,(7,.loc (.t 45 0) 0 (jX x.f0 x.f1 x.s0 x.s1 (tr T x.a)).length)],[(.t 45 0,.arr 2 (E cT (jX x.f0 x.f1 x.s0 x.s1 (tr T x.a))) false),(.t 6 0,oW m),(.t 30 1,.arr 1 (E sV m.SV) false),(.t 30 0,.arr 1 (E sV m.TV) false),(.t 4 0,nW)]⟩) (λC hC=>?_) λa8 w8 S8 p8 hf=>?_
  .simp -dsimp only[go_sem,ga,qx,qt]
   repeat' first|simp -dsimp only[go_sem,ga,qx,qt]|apply Br.mk<;>intro h<;>try simp -dsimp only[h]|refine aB.own (by first|exact TO) rfl ?_|refine aC ?_|fail
   all_goals first|(simp[Vs.LeL,Vs.look,aA];done)|exact⟨by simp[Vs.LeL,Vs.look,aA],trivial⟩|omega
  have jd:(E cT (jX x.f0 x.f1 x.s0 x.s1 (tr T x.a))).length=(jX x.f0 x.f1 x.s0 x.s1 (tr T x.a)).length:=aH _;rw[←jd] at hf
  obtain ⟨s,x6,c6,⟨sb,sm,sc,rfl⟩,qz,qc,q9⟩:=hf.buryS (n:=.t 45 0) (k:=2) (rows:=E cT (jX x.f0 x.f1 x.s0 x.s1 (tr T x.a))) rfl aE7 (t:=7) rfl (by
    simp only[bW];intro p hp;simp[rF,Vs.scr,Vs.AV.has] at hp;rcases hp with rfl|rfl|rfl|rfl
    . exact⟨rfl,rfl⟩
    . exact⟨λr hr=>aX r hr,rfl⟩
    . exact⟨λr hr=>aX r hr,rfl⟩
    . exact⟨rfl,rfl⟩)
  have ql:=(q9 [(7,.v (.slice sb sm sc)),pP 4,pP 6] (fvC (.inr (.inr rfl)) (fvC (.inl ⟨rfl,rfl⟩) (fvC (.inl ⟨rfl,rfl⟩) fvN)))).le (τ:=⟨[(7,.v (.slice sb sm sc)),pP 4,pP 6],[(.t 6 0,oW m),(.t 30 1,.arr 1 (E sV m.SV) false),(.t 30 0,.arr 1 (E sV m.TV) false),(.t 4 0,nW)]⟩) (by simp[Vs.LeL,Vs.look,aA,bW,rF,Vs.scr,Vs.AV.has]) (fvC ⟨rfl,rfl⟩ (fvC ⟨aX,rfl⟩ (fvC ⟨aX,rfl⟩ (fvC ⟨rfl,rfl⟩ fvN))))
  letI I9:=Vs.keepE (λb=>S8 b∨x6=some b) w8
  have ja:=aCA m.SV (sb,sm,sc);have jl:m.SV.length<=1048576:=by rw[←hom.sn];exact q4.1
  refine ql.goT dM I 2 _ (τ:=⟨[pP 4,(5,.v (.int .i64 0))],[(.t 4 0,.var [.loc (.t 30 0) 0 m.TV.length,.loc (.t 56 0) 0 (m.SV.length+1)] false),(.t 30 0,.arr 1 (E sV m.TV) false),(.t 56 0,.arr 1 (E sV (m.SV++[(sb,sm,sc)])) false)]⟩) (λC hC=>?_) λaa wa Sa pa hy=>?_
  .simp only[kU]
   repeat' first|simp -dsimp only[go_sem,ja,qj,qk]|apply Br.mk<;>intro h<;>try simp -dsimp only[h]|refine aC ?_|fail
   all_goals first|(simp[Vs.LeL,Vs.look,aA];done)|exact⟨by simp[Vs.LeL,Vs.look,aA],trivial⟩|(and_intros<;>first|trivial|(simp[Vs.LeL,Vs.look,aA];done)|omega)
  obtain ⟨qh,u,ρ,κ,h3,qr,ht,hs,hq⟩:=hy.resX (fn:=Tryz.f56) (x:=.tup [.agg [.loc (.t 30 0) 0 m.TV.length,.loc (.t 56 0) 0 (m.SV.length+1)],.v (.int .i64 0)]) (by
    show dQ Tryz.prog _ _ [_,_]
    simp -dsimp only[go_sem]
    try simp[dU])
  obtain⟨us,rfl,h8,h6⟩:=uC qr;have qp:us.getD 1 undef=.int .i64 0:=bE (h6 1 (by simp));have h5:=aHK (vs:=us) h8 qp;have h4:=h6 0 (by simp);generalize us.getD 0 undef=ou at h4 h5;subst h5;obtain⟨O,rfl,qa,h9⟩:=jW h4;have hd:=uJ (vs:=O) qa;have r0:RV Sa wa ρ κ _ (.loc (.t 30 0) 0 m.TV.length) (O.getD 0 undef):=h9 0 (by simp);have r1:RV Sa wa ρ κ _ (.loc (.t 56 0) 0 (m.SV.length+1)) (O.getD 1 undef):=h9 1 (by simp);generalize O.getD 0 undef=tv2 at r0 hd;generalize O.getD 1 undef=sv2 at r1 hd;subst hd;have o0:=ht (.t 30 0) 1 (E sV m.TV) tv2 rfl (λr hr=>aX r hr) (by rw[aH];simpa using r0);have o1:=ht (.t 56 0) 1 (E sV (m.SV++[(sb,sm,sc)])) sv2 rfl (λr hr=>aX r hr) (by rw[aH];simpa using r1);have n0:=λb=>hs (.t 30 0) b rfl;have n1:=λb=>hs (.t 56 0) b rfl
  have qi:∀b,ρ (.t 30 0)=some b->ρ (.t 56 0)≠some b:=λb h1 h2=>by
   have:=hq (.t 30 0) (.t 56 0) b rfl rfl h1 h2;cases this
  have J:Vs.Past S6 w6 Sa wa:=((p7.trans p8).trans ⟨λ_ h=>.inl h,λ_ _=>rfl,Ar _⟩).trans pa;have q6:Vs.Past S6 w6 S8 w8:=p7.trans p8;have qd:Vs.Past (λb=>S8 b∨x6=some b) w8 Sa wa:=pa
  have hO:=hom.snocS (Bl p6.size J.size) (λi b hi H=>(J.old b (Y i b hi H).1).trans (Y i b hi H).2) (λi b hi H=>(J.old b (Z i b hi H).1).trans (Z i b hi H).2) o0 o1 (qz.mono (λ_ _ h=>h) λb H=>qd.old b (.inr H))
   (λb e=>⟨λi hi H=>(qc b e).2.2 (q6.sub b (Y i b hi H).1),λi hi H=>(qc b e).2.2 (q6.sub b (Z i b hi H).1)⟩)
   (λb e=>⟨qi b e,λh=>(n0 b e).2.2 (qd.sub b (.inr h)),λi hi H=>(n0 b e).2.2 (J.sub b (Y i b hi H).1),λi hi H=>(n0 b e).2.2 (J.sub b (Z i b hi H).1)⟩)
   (λb e=>⟨λh=>(n1 b e).2.2 (qd.sub b (.inr h)),λi hi H=>(n1 b e).2.2 (J.sub b (Y i b hi H).1),λi hi H=>(n1 b e).2.2 (J.sub b (Z i b hi H).1)⟩)
   (λb e=>by
     rcases e with e|e|e
     . exact(n0 b e).2.1
     . exact(n1 b e).2.1
     . exact AZ (qc b e).2.1 qd.size)
  rw[←show stO x ⟨T,U⟩=⟨T,U++[(jX x.f0 x.f1 x.s0 x.s1 (tr T x.a))]⟩ from aJ7 h7] at hO;refine At.ret ?_;simp only[Exit.inBlock,Exit.then];refine⟨.inl trivial,qh,_,h3,tv2,sv2,rfl,L ▸ hy.out,_,hO,λb H=>?_⟩;rcases H with(H|⟨i,hi,H⟩)|(H|⟨j,hj,H⟩)
  .exact L ▸ (n0 b H).1
  .exact Bl (L ▸ qb) (hon b (.inl (.inr ⟨i,hi,H⟩)))
  .exact L ▸ (n1 b H).1
  .have hh:(if j=(m.SV.map slW).length then x6 else m.ys j)=some b:=H;split at hh
   .exact L ▸ (qc b hh).1
   .rename_i je;exact Bl (L ▸ qb) (hon b (.inr (.inr ⟨j,by simp at hj je;omega,hh⟩)))
 .have e7:(x.kind==7)=false:=AC.2 h7;refine At.seq (At.seq (At.rg (q3.rgN I 3 (τ:=⟨[(33,.v (.bool false)),(2,.ro [.sl 1 (E cD T),.sl 1 (E cTs U)]),pP 3,pP 4,pP 6],[(.t 6 0,oW m),(.t 30 1,.arr 1 (E sV m.SV) false),(.t 30 0,.arr 1 (E sV m.TV) false),(.t 3 0,.var (cS x) false),(.t 4 0,nW)]⟩) ?_ λa7 w7 S7 p7 hw=>RgL.nil ?_)))
  .simp -dsimp only[go_sem,e7]
   first|(simp[Vs.LeL,Vs.look,aA];done)
  refine hw.cond rfl (λh=>(by cases h)) λ_=>At.skip ?_;show Vs.At Tryz.prog Tryz.f56.ntmps (aW Tryz.prog) (.seq (.region _ _ _) _) _ _ _
  have jp:T.length=m.TV.length:=hom.tn;have t2:x.to.toNat<m.TV.length:=by omega
  refine At.seq (At.rg (hw.rgN I 2 (τ:=⟨[(60,uE T U),(61,.agg (cS x)),pP 3,pP 4,pP 6],[(.t 6 0,oW m),(.t 30 1,.arr 1 (E sV m.SV) false),(.t 30 0,.arr 1 (E sV m.TV) false),(.t 3 0,.var (cS x) false),(.t 4 0,nW)]⟩) ?_ λa8 w8 S8 p8 hf=>hf.rgc I (ts:=[60,61]) (ys:=[uE T U,.agg (cS x)]) (jZ Cd.i_deckOf_k.o) rfl rfl λus qq hr=>?_))
  .simp -dsimp only[go_sem,e7]
   first|(simp[Vs.LeL,Vs.look,aA];done)
  refine(aJC x q5 T qm.2 qm.1 hx.a hx.b U (jc h7) hf.dom hf.env qq hr).mono ?_;rintro e w9 ⟨dv,rfl,hu,md,hd3,hn3⟩
  obtain ⟨sb,sm,sc,rfl⟩:∃b n c,dv=.slice b n c:=by
   have:=hd3.root;cases this;exact⟨_,_,_,rfl⟩
  refine⟨_,rfl,?_⟩
  have ql:=(hf.grow hu (D:=md.D) (λb H=>⟨hn3 b H,hd3.lt b H⟩) [pP 3,pP 4,pP 6] (λp hp=>by
      simp only[Ap,Ao,AX] at hp;rcases hp with rfl|rfl|rfl
      all_goals exact⟨rfl,.inl rfl⟩)).putR (d:=62) (by rw[I,Cd.i_doStep_k.n];omega) (r:=.tup [.v (.slice sb sm sc),.v (.int .i64 0)]) (u:=.tuple #[.slice sb sm sc,.int .i64 0]) (.tup _ _ rfl λj hj=>by
    match j,hj with
    |0,_=>exact .v _
    |1,_=>exact .v _)
  have p9:Vs.Past S8 w8 (λb=>S8 b∨md.D b) w9:=Vs.Past.grow hu hf.dom
  letI I9:=Vs.keepE (λb=>S8 b∨md.D b) w9
  refine ql.rgN I 5 (τ:=⟨[(9,.v (.slice sb sm sc)),(10,.v (.int .i64 0)),pP 3,pP 4,pP 6],[(.t 6 0,oW m),(.t 30 1,.arr 1 (E sV m.SV) false),(.t 30 0,.arr 1 (E sV m.TV) false),(.t 3 0,.var (cS x) false),(.t 4 0,nW)]⟩) ?_ λjn jr jm jj q0=>RgL.nil ?_
  .simp -dsimp only[go_sem,e7]
   first|(simp[Vs.LeL,Vs.look,aA];done)
  have hset:=aNx m.TV x.to.toNat (sb,sm,sc);have qv:(E sV m.TV).getD x.to.toNat []=[.v (slW (m.TV.getD x.to.toNat default))]:=by simp[E,t2,sV,slW]
  have qu:((E sV m.TV).getD x.to.toNat []).length=1:=by rw[qv];rfl
  have hu:((E sV m.TV).getD x.to.toNat []).set 0 (.v (.slice sb sm sc))=[.v (.slice sb sm sc)]:=by rw[qv];rfl
  refine q0.goT dM I 3 _ (τ:=⟨[pP 4,(5,.v (.int .i64 0))],[(.t 4 0,oW m),(.t 30 0,.arr 1 (E sV (m.TV.set x.to.toNat (sb,sm,sc))) false),(.t 30 1,.arr 1 (E sV m.SV) false)]⟩) (λC hC=>?_) λaa wa Sa pa hy=>?_
  .simp -dsimp only[go_sem,hset,qu,hu,qj,qk]
   repeat' first|simp -dsimp only[go_sem,hset,qu,hu,qj,qk]|apply Br.mk<;>intro h<;>try simp -dsimp only[h]|refine aC ?_|fail
   all_goals first|(simp[Vs.LeL,Vs.look,aA];done)|exact⟨by simp[Vs.LeL,Vs.look,aA],trivial⟩|(and_intros<;>first|trivial|(simp[Vs.LeL,Vs.look,aA];done)|omega)
  obtain ⟨qh,u,ρ,κ,h3,qr,ht,hs,hq⟩:=hy.resX (fn:=Tryz.f56) (x:=.tup [.agg [.loc (.t 30 0) 0 m.TV.length,.loc (.t 30 1) 0 m.SV.length],.v (.int .i64 0)]) (by
    show dQ Tryz.prog _ _ [_,_]
    simp -dsimp only[go_sem]
    try simp[dU])
  obtain⟨us,rfl,h8,h6⟩:=uC qr;have qp:us.getD 1 undef=.int .i64 0:=bE (h6 1 (by simp));have h5:=aHK (vs:=us) h8 qp;have h4:=h6 0 (by simp);generalize us.getD 0 undef=ou at h4 h5;subst h5;obtain⟨O,rfl,qa,h9⟩:=jW h4;have hd:=uJ (vs:=O) qa;have r0:RV Sa wa ρ κ _ (.loc (.t 30 0) 0 m.TV.length) (O.getD 0 undef):=h9 0 (by simp);have r1:RV Sa wa ρ κ _ (.loc (.t 30 1) 0 m.SV.length) (O.getD 1 undef):=h9 1 (by simp);generalize O.getD 0 undef=tv2 at r0 hd;generalize O.getD 1 undef=sv2 at r1 hd;subst hd;have o0:=ht (.t 30 0) 1 (E sV (m.TV.set x.to.toNat (sb,sm,sc))) tv2 rfl (λr hr=>aX r hr) (by rw[aH];simpa using r0);have o1:=ht (.t 30 1) 1 (E sV m.SV) sv2 rfl (λr hr=>aX r hr) (by rw[aH];simpa using r1);have n0:=λb=>hs (.t 30 0) b rfl;have n1:=λb=>hs (.t 30 1) b rfl
  have qi:∀b,ρ (.t 30 0)=some b->ρ (.t 30 1)≠some b:=λb h1 h2=>by
   have:=hq (.t 30 0) (.t 30 1) b rfl rfl h1 h2;cases this
  have qe:Vs.Past (λb=>S8 b∨md.D b) w9 Sa wa:=jj.trans pa;have J:Vs.Past S6 w6 Sa wa:=((p7.trans p8).trans p9).trans qe;have js:w4.heap.size<=w8.heap.size:=Bl p6.size (p7.trans p8).size
  have hO:=hom.setT (Bl p6.size J.size) (λi b hi H=>(J.old b (Y i b hi H).1).trans (Y i b hi H).2) (λi b hi H=>(J.old b (Z i b hi H).1).trans (Z i b hi H).2) t2 o0 o1 (hd3.past (S:=λb=>S8 b∨md.D b) (λb H=>.inr H) qe)
   (λb H hm=>by have:=hom.lt b hm;have:=hn3 b H;omega)
   (λb e=>⟨qi b e,λh=>(n0 b e).2.2 (qe.sub b (.inr h)),λi hi H=>(n0 b e).2.2 (J.sub b (Y i b hi H).1),λi hi H=>(n0 b e).2.2 (J.sub b (Z i b hi H).1)⟩)
   (λb e=>⟨λh=>(n1 b e).2.2 (qe.sub b (.inr h)),λi hi H=>(n1 b e).2.2 (J.sub b (Y i b hi H).1),λi hi H=>(n1 b e).2.2 (J.sub b (Z i b hi H).1)⟩)
   (λb e=>by
     rcases e with e|e
     . exact(n0 b e).2.1
     . exact(n1 b e).2.1)
  rw[←show stO x ⟨T,U⟩=⟨T.set x.to.toNat (dkL x (tr T x.a) (tr T x.b)),U⟩ from aM6 h7] at hO;refine At.ret ?_;simp only[Exit.inBlock,Exit.then];refine⟨.inl trivial,qh,_,h3,tv2,sv2,rfl,L ▸ hy.out,_,hO,λb H=>?_⟩;have q8:w.heap.size<=w3.heap.size:=L ▸ qb;rcases H with(H|⟨i,hi,H⟩)|(H|⟨j,hj,H⟩)
  .exact L ▸ (n0 b H).1
  .have hh:(if i=x.to.toNat then md else m.M i).D b:=H;split at hh
   .have:=hn3 b hh;have:=hg.size;omega
   .exact Bl q8 (hon b (.inl (.inr ⟨i,by rw[Am] at hi;exact hi,hh⟩)))
  .exact L ▸ (n1 b H).1
  .exact Bl q8 (hon b (.inr (.inr ⟨j,hj,H⟩)))
end
end Go.Proofs.YtkgeiaideklmoaaGreat
