/- DoStep of the program and of the reference, for every office. -/
import Derived.Test.YtkgeiaideklmoaaGreatZwMa
import Derived.Test.YtkgeiaideklmoaaGreatZwC
import Derived.Test.YtkgeiaideklmoaaGreatZwDs
import Derived.Test.YtkgeiaideklmoaaGreatZwDl
import Derived.Test.YtkgeiaideklmoaaGreatZwRe
import Derived.Test.YtkgeiaideklmoaaGreatVuV
import Derived.Test.YtkgeiaideklmoaaGreatZwD
import Derived.Test.YtkgeiaideklmoaaGreatVtR
import Derived.Test.YtkgeiaideklmoaaGreatZwVu
set_option linter.all false
set_option maxHeartbeats 8000000
namespace Go.Proofs.YtkgeiaideklmoaaGreat
open Go.Vs
section
variable [Vs.Envs]
attribute [local irreducible] Vs.Fn
theorem aIf {l:List (List Int)} (F:aY l) (i:Nat):dL (l.take i)<=2 ^ 40:=by
 have I:=aD8 (l:=l.take i) λc H=>F.2 c (CE H);have h2:(l.take i).length<=1048576:=by rw[BM];have:=F.1;omega
 have:=Bn 1048576 h2;omega
theorem aIN (l:List (List Int)) (k:Nat) (hk:aY l) (hk0:k<=2 ^ 60):Fz F.qB [.sl 1 (E cC (mkD k l)),.v (.int .i64 k)] (.v (.int .i64 (k+dL l:Nat))):=by
 have hlr:(mkD k l).length=l.length:=yM k l;have hl:=hk.1;refine fn0 Cd.l_heldCardS_k λX=>?_;simp -dsimp only[go_sem];refine aM.at dM (X:={i:Nat // i<=l.length}) (λi=>[(1,.v (.int .i64 (k+dL (l.take i.1):Nat))),(5,.v (.int .i64 i.1))]) (λi=>[]) (λi=>l.length-i.1) ⟨0,by omega⟩ ?_ ?_
 .simp[Vs.LeL,Vs.look,aA,aS,aJ,Vs.hset,aK,dL]
 .rintro⟨i,hi⟩;simp -dsimp only[go_sem,aH,hlr];refine Br.mk (λhc=>?_) λhc=>?_
  .have hlt:i<l.length:=by simpa using hc
   have hw:=aG hlt hl;have hgi:(E cC (mkD k l)).getD i []=[.sl 1 (E cI (mkR (mI (k+dL (l.take i))) l[i] l[i].length))]:=aLM k hlt;have hb:=aIf hk i;have H:=aGQ l[i] (k+dL (l.take i)) (hk.2 _ (Aa hlt)) (by omega);have hn:decide (((k+dL (l.take i)+l[i].length:Nat):Int)<0)=false:=AQ (by omega);have hs:k+dL (l.take i)+l[i].length=k+dL (l.take (i+1)):=by rw[aX hlt,aAZ];omega
   rw[hs] at H hn
   repeat' first|simp -dsimp only[go_sem,hw,hgi,hlr,hn,aH]|apply Br.mk<;>intro h<;>try simp -dsimp only[h]|refine aB.c (by first|exact H) ?_|refine aC ?_|fail
   all_goals(exact⟨⟨i+1,by omega⟩,by simp[Vs.LeL,Vs.look,aA,aS,aJ,Vs.hset,aK],by simp only;omega⟩)
  .have hge:i=l.length:=by
    have:¬i<l.length:=by simpa using hc
    omega
   subst hge;simp -dsimp only[go_sem];simp
end
section
variable [Vs.Envs]
attribute [local irreducible] Vs.Fn mkD dL bL aP bM bP l03 chB rk cd3 chI stp aQ
theorem xB {S:Nat->Prop}{w:World}{k:Nat}{r:List (List AV)}{v:Value} (h:RC S w (.sl k r) v):∃s:Sl,v=slW s:=by
 cases h with
 |sl _ _ base cap=>exact⟨(base,_,cap),rfl⟩
def Gd (w:World) (d:List (List Int)) (s:Sl) (m:Vs.Mem):Prop:=Vs.Dk w (d.map (E cI)) (slW s) m
def Dt (m:Option Nat×Nat) (b:Nat):Prop:=m.1=some b
def Gt (w:World) (t:List Tot) (s:Sl) (m:Option Nat×Nat):Prop:=Vs.Own (λ_=>False) w m.1 m.2 2 (E cT t) (slW s)∧∀b,m.1=some b->b<w.heap.size
theorem aH9 (w w':World) (d:List (List Int)) (s:Sl) (m:Vs.Mem) (h:Gd w d s m) (F:w.heap.size<=w'.heap.size) (H:∀b,m.D b->w'.heap[b]? = w.heap[b]?):Gd w' d s m:=h.same F H
theorem aEJ (w w':World) (t:List Tot) (s:Sl) (m:Option Nat×Nat) (h:Gt w t s m) (H:w.heap.size<=w'.heap.size) (I:∀b,Dt m b->w'.heap[b]? = w.heap[b]?):Gt w' t s m:=
 ⟨h.1.mono (λ_ _ h=>h) I,λb F=>AZ (h.2 b F) H⟩
theorem aMB (t:List Tot):∀r,r∈E cT t->gG r=true:=λr F=>by
 obtain⟨x,_,rfl⟩:=Bq.1 F;rfl
theorem aJf (l:List Tot) (H:l.length<=1048576):Vs.Fn Tryz.prog F.mF [] [.sl 2 (E cT l)] (.loc (.b 0) 0 l.length) [some (.arr 2 (E cT l) false)]:=
 aLc Tryz.mixed (g:=F.oM) (k:=2) (y:=24) (z:=[.v (.string ⟨#[]⟩),.v (.int .i64 0)]) Cd.l_toTotalS_k.o Cd.l_toTotalS_k.n Cd.l_toTotalS_k.r rfl (λ_=>rfl) (by decide) rfl rfl (λ_=>rfl) (λx I=>aHk x.1 x.2) H (by decide)
theorem aET (l:List (List (List Int))) (J:wU l) {S:Nat->Prop}{w:World}{L:Value} (H:∀b,S b->b<w.heap.size) (I:Env S w) (h0:RC S w (.sl 1 (E cD l)) L):Calls Tryz.prog F.oO #[L] w (aK7 Vs.Mem.D Gd l w):=
 aKO Cd.l_toCardSS_k.o Cd.l_toCardSS_k.n Cd.l_toCardSS_k.r (by kernel_rfl) (lT Cd.l_toCardS_k.o) (l:=l) (c:=λd=>.sl 1 (E cC d)) (λ_=>rfl) J.1 (D:=Vs.Mem.D) (G:=Gd) ⟨none,[],λ_=>none,λ_=>0⟩ aH9 (λw d s m h=>h.lt)
  (λd O S w v H Y=>(@aGi ⟨[]⟩ d (J.2 d O) S w v H (λp U=>by cases U) Y).mono λe w' ⟨u,I,hg,m,hdk,hn⟩=>by
    obtain⟨s,rfl⟩:=xB hdk.rd;exact⟨s,m,I,hg,hdk,hn⟩) H I h0
theorem aD9 (l:List (List Tot)) (L:tL l) {S:Nat->Prop}{w:World}{O:Value} (H:∀b,S b->b<w.heap.size) (J:Env S w) (h0:RC S w (.sl 1 (E cTs l)) O):Calls Tryz.prog F.mQ #[O] w (aK7 Dt Gt l w):=
 aKO Cd.l_toTotalSS_k.o Cd.l_toTotalSS_k.n Cd.l_toTotalSS_k.r (by kernel_rfl) (lT Cd.l_toTotalS_k.o) (l:=l) (c:=λt=>.sl 2 (E cT t)) (λ_=>rfl) L.1 (D:=Dt) (G:=Gt) (none,0) aEJ (λw d s m h=>h.2)
  (λt Z S w v H hv=>(@aI2 Tryz.prog ⟨[]⟩ _ _ _ _ _ (@aJf ⟨[]⟩ t (L.2 t Z).1) (aH _).symm (aMB t) S w #[v] H (λp Y=>by cases Y) rfl (λj U=>by
    match j,U with
    |0,_=>exact hv)).mono λe w' ⟨u,x,c,J,hg,ho,hn⟩=>by
    obtain⟨s,rfl⟩:=xB ho.rc;exact⟨s,(x,c),J,hg,⟨ho,λb I=>(hn b I).2⟩,λb I=>(hn b I).1⟩) H J h0
theorem aLs {S:Nat->Prop}{w:World}{ρ:Vs.Name->Option Nat}{κ:Vs.Name->Nat}{g:Vs.Name->Option Vs.Blk}{x y u:Value} (h:RV S w ρ κ g (.agg [.v x,.v y]) u):u=.agg #[x,y]:=by
 obtain⟨vs,rfl,H,F⟩:=kW h;rw[vK H,show vs.getD 0 undef=x from bI (F 0 (by simp)),show vs.getD 1 undef=y from bI (F 1 (by simp))]
attribute [local go_sem] Bf BA Int.reduceBEq Int.reduceBNe cC aH Af Ag Ao Aq Ae Aj Ad Al Ac Ai Ap Av Am Ak AR BQ Vs.Name.t.injEq Ar AY Vs.Name.b.injEq AJ Bp cD cTs cO in
set_option maxRecDepth 20000 in
theorem aEQ (o:Off) (ho:eD o) {S:Nat->Prop}{w:World}{vs:Array Value} (hS:∀b,S b->b<w.heap.size) (he:Env S w) (h3:vs.size=1) (Z:∀j,j<1->RC S w (([.agg (cO o)]:List AV).getD j .junk) (vs.getD j undef)):Calls Tryz.prog F.gK vs w (λe0 w0=>∃tv sv,e0=.returned (.agg #[slW tv,slW sv])∧jU w w0∧aBJ w w0 o (slW tv) (slW sv)):=by
 obtain⟨h1,h2,_⟩:=Cd.l_toOffice_k.o;obtain⟨h6,H,hc⟩:=A7.1 h2;have hz:(Tryz.f22.body.map (zB Tryz.f22.ntmps (bC Tryz.prog)))=some true:=by kernel_rfl
 rw[H] at hz;have hq:=bA Tryz.mixed;refine Vs.Pt.calls (dr:=bC Tryz.prog) (ac:=Cd.gK) h1 H hc (by simpa using hz) (args:=[.agg (cO o)]) (by rw[Cd.l_toOffice_k.n];exact Bd rfl) hS he h3 Z λC1 a I hf h7 hp=>?_;unfold Cd.gK
 refine hp.goS (τ:=⟨[(1,.ptr (.t 1 0) 0 0),(2,.ptr (.t 2 0) 0 0),(3,.ptr (.t 3 0) 0 0)],[(.t 1 0,.var [.sl 1 (E cD o.trays),.sl 1 (E cTs o.totals)] false),(.t 2 0,.var [.v (.slice none 0 0),.v (.slice none 0 0)] false),(.t 3 0,.var [.v (.slice none 0 0),.v (.slice none 0 0)] false)]⟩) hq I 2 _ (E:=λ_ _=>False) [(.t 2 0,.var [.v (.slice none 0 0),.v (.slice none 0 0)] false),(.t 3 0,.var [.v (.slice none 0 0),.v (.slice none 0 0)] false)] (λp hp=>by
     simp only[Am,Ak,AR] at hp;rcases hp with rfl|rfl<;>exact⟨rfl,rfl,rfl⟩) [(1,.ro [.sl 1 (E cD o.trays),.sl 1 (E cTs o.totals)]),(2,.ptr (.t 2 0) 0 0),(3,.ptr (.t 3 0) 0 0)] (λp hp=>?_) (λC hC=>?_) (λi σ h=>h) (λC a w hl hg=>hg.no.elim) λI1 a1 w1 S1 p1 hs=>?_
 .simp only[Am,Ak,AR] at hp;rcases hp with rfl|rfl|rfl
  .exact .inr ⟨rfl,_,rfl,λn hn=>by
     have:n=.t 1 0:=by simpa using hn
     subst this;rfl⟩
  .exact .inl ⟨rfl,rfl⟩
  .exact .inl ⟨rfl,rfl⟩
 .simp -dsimp only[go_sem,slW]
  repeat' first|simp -dsimp only[go_sem,slW]|refine RgK.mk rfl ?_|fail
  all_goals first|(simp[Vs.LeL,Vs.look,aA];done)|exact⟨by simp[Vs.LeL,Vs.look,aA],trivial⟩|omega|(and_intros<;>first|trivial|omega|(simp[Vs.LeL,Vs.look,aA];done))
 refine At.seq (At.rg (hs.rgN I 2 (τ:=⟨[(5,.sl 1 (E cD o.trays)),(1,.ro [.sl 1 (E cD o.trays),.sl 1 (E cTs o.totals)]),(2,.ptr (.t 2 0) 0 0),(3,.ptr (.t 3 0) 0 0)],[(.t 2 0,.var [.v (.slice none 0 0),.v (.slice none 0 0)] false),(.t 3 0,.var [.v (.slice none 0 0),.v (.slice none 0 0)] false)]⟩) ?_ λa2 w2 S2 p2 O=>O.rgc I (ts:=[5]) (ys:=[.sl 1 (E cD o.trays)]) (lT Cd.l_toCardSS_k.o) rfl rfl λus hd hr=>?_))
 .simp -dsimp only[go_sem,slW]
  first|(simp[Vs.LeL,Vs.look,aA];done)|(and_intros<;>first|omega|rfl|(simp[Vs.LeL,Vs.look,aA];done))
 obtain⟨u0,rfl⟩:∃u0,us=#[u0]:=⟨_,Vs.us1 hd rfl⟩;refine(aET o.trays ho.1 O.dom O.env (hr 0 DJ)).mono ?_;rintro e w3 ⟨v,x0,c0,V,M,rfl,hg,hOw,hVl,hGd,hdis,hout,hnew⟩;obtain⟨s,rfl⟩:=xB hOw.rc;refine⟨_,rfl,?_⟩;have ht:=(O.grow hg (D:=λb=>x0=some b∨∃i,i<V.length∧(M i).D b) hnew [(1,.ro [.sl 1 (E cD o.trays),.sl 1 (E cTs o.totals)]),(2,.ptr (.t 2 0) 0 0),(3,.ptr (.t 3 0) 0 0)] (fvC ⟨rfl,.inr rfl⟩ (fvC ⟨rfl,.inl rfl⟩ (fvC ⟨rfl,.inl rfl⟩ fvN)))).put (d:=6) (by rw[I,Cd.l_toOffice_k.n];omega) (slW s)
 letI I3:=Vs.keepE (λb=>S2 b∨x0=some b∨∃i,i<V.length∧(M i).D b) w3
 refine ht.rgN I 2 (τ:=⟨[(1,.ro [.sl 1 (E cD o.trays),.sl 1 (E cTs o.totals)]),(2,.ptr (.t 2 0) 0 0),(3,.ptr (.t 3 0) 0 0)],[(.t 2 0,.var [.v (.slice none 0 0),.v (.slice none 0 0)] false),(.t 3 0,.var [.v (slW s),.v (.slice none 0 0)] false)]⟩) ?_ λa4 w4 S4 p4 hv=>RgL.nil ?_
 .simp -dsimp only[go_sem,slW]
  first|(simp[Vs.LeL,Vs.look,aA];done)|(and_intros<;>first|omega|rfl|(simp[Vs.LeL,Vs.look,aA];done))
 refine At.seq (At.rg (hv.rgN I 2 (τ:=⟨[(9,.sl 1 (E cTs o.totals)),(2,.ptr (.t 2 0) 0 0),(3,.ptr (.t 3 0) 0 0)],[(.t 2 0,.var [.v (.slice none 0 0),.v (.slice none 0 0)] false),(.t 3 0,.var [.v (slW s),.v (.slice none 0 0)] false)]⟩) ?_ λa5 w5 S5 p5 J=>J.rgc I (ts:=[9]) (ys:=[.sl 1 (E cTs o.totals)]) (lT Cd.l_toTotalSS_k.o) rfl rfl λus hd hr=>?_))
 .simp -dsimp only[go_sem,slW]
  first|(simp[Vs.LeL,Vs.look,aA];done)|(and_intros<;>first|omega|rfl|(simp[Vs.LeL,Vs.look,aA];done))
 obtain⟨u1,rfl⟩:∃u1,us=#[u1]:=⟨_,Vs.us1 hd rfl⟩;refine(aD9 o.totals ho.2 J.dom J.env (hr 0 DJ)).mono ?_;rintro e w6 ⟨v,y0,d0,V2,M2,rfl,hg2,hOw2,hVl2,hGt,hdis2,hout2,hnew2⟩;obtain⟨s2,rfl⟩:=xB hOw2.rc;refine⟨_,rfl,?_⟩;have hw:=(J.grow hg2 (D:=λb=>y0=some b∨∃i,i<V2.length∧Dt (M2 i) b) hnew2 [(2,.ptr (.t 2 0) 0 0),(3,.ptr (.t 3 0) 0 0)] (fvC ⟨rfl,.inl rfl⟩ (fvC ⟨rfl,.inl rfl⟩ fvN))).put (d:=10) (by rw[I,Cd.l_toOffice_k.n];omega) (slW s2)
 letI I6:=Vs.keepE (λb=>S5 b∨y0=some b∨∃i,i<V2.length∧Dt (M2 i) b) w6
 refine hw.rgN I 2 (τ:=⟨[(2,.ptr (.t 2 0) 0 0),(3,.ptr (.t 3 0) 0 0)],[(.t 2 0,.var [.v (.slice none 0 0),.v (.slice none 0 0)] false),(.t 3 0,.var [.v (slW s),.v (slW s2)] false)]⟩) ?_ λa7 w7 S7 p7 hx=>RgL.nil ?_
 .simp -dsimp only[go_sem,slW]
  first|(simp[Vs.LeL,Vs.look,aA];done)|(and_intros<;>first|omega|rfl|(simp[Vs.LeL,Vs.look,aA];done))
 refine At.seq (At.rg (hx.rgN I 2 (τ:=⟨[(2,.ptr (.t 2 0) 0 0)],[(.t 2 0,.var [.v (slW s),.v (slW s2)] false)]⟩) ?_ λa8 w8 S8 p8 Y=>RgL.nil ?_))
 .simp -dsimp only[go_sem,slW]
  first|(simp[Vs.LeL,Vs.look,aA];done)|(and_intros<;>first|omega|rfl|(simp[Vs.LeL,Vs.look,aA];done))
 obtain ⟨hm,u,ρ,κ,hy,h4,_⟩:=Y.resX (fn:=Tryz.f22) (x:=.agg [.v (slW s),.v (slW s2)]) (by
   show dR Tryz.prog _ _ [_]
   simp -dsimp only[go_sem,slW]
   try simp[eH])
 have hu:=aLs h4;subst hu;have hh:Vs.Past (λb=>S2 b∨x0=some b∨∃i,i<V.length∧(M i).D b) w3 S5 w5:=p4.trans p5;have h5:Vs.Past S5 w5 (λb=>S5 b∨y0=some b∨∃i,i<V2.length∧Dt (M2 i) b) w6:=Vs.Past.grow hg2 J.dom;have U:Vs.Past (λb=>S5 b∨y0=some b∨∃i,i<V2.length∧Dt (M2 i) b) w6 S8 w8:=p7.trans p8;have pA:=(hh.trans h5).trans U;have h8:w.heap.size<=w2.heap.size:=hf ▸ O.size;have h9:w.heap.size<=w5.heap.size:=hf ▸ J.size;refine At.ret ⟨.inl rfl,hm,_,hy,s,s2,rfl,hf ▸ Y.out,⟨x0,c0,V,M,y0,d0,V2,λi=>(M2 i).1,λi=>(M2 i).2⟩,⟨hOw.mono (λ_ _ h=>h) λb H=>pA.old b (.inr (.inl H)),hVl.symm,λi hi=>?_,hdis,λi b hi H=>hout i b hi H,hOw2.mono (λ_ _ h=>h) λb H=>U.old b (.inr (.inl H)),⟨by simp[hVl2],λi hi=>?_,λi j b hi hj=>hdis2 i j b (by simpa using hi) (by simpa using hj)⟩,λi b hi H=>hout2 i b hi H,λb h1 h2=>?_,λb H=>?_⟩,λb H=>?_⟩
 .have L:i<o.trays.length:=by rw[←hVl];exact hi
  have:=(hGd i L).same (w':=w8) pA.size λb H=>pA.old b (.inr (.inr ⟨i,hi,H⟩))
  rwa [show o.trays.getD i []=o.trays[i] by simp[L]]
 .have ha:i<V2.length:=by simpa using hi
  have L:i<o.totals.length:=by rw[←hVl2];exact ha
  have:=(aEJ _ w8 _ _ _ (hGt i L) U.size λb H=>U.old b (.inr (.inr ⟨i,ha,H⟩))).1;rw[show(o.totals.map (E cT)).getD i []=E cT o.totals[i] by simp[L],show(V2.map slW).getD i undef=slW (V2.getD i default) by simp[ha]];exact this
 .have hk:S5 b:=hh.sub b (.inr h1);have:=J.dom b hk;have:=(hnew2 b h2).1;omega
 .rcases H with H|H
  .exact Y.dom b (pA.sub b (.inr H))
  .exact Y.dom b (U.sub b (.inr H))
 .rcases H with H|H
  .have:=(hnew b H).1;omega
  .have:=(hnew2 b H).1;omega
end
section
variable [Vs.Envs]
attribute [local irreducible] Vs.Fn mkD dL mtx bL aP bM bP l03 chB rk cd3 chI stp aQ
def zJ (t:List Tot):Nat:=2*t.length
def mkT (k:Nat) (t:List Tot):List Tot:=mkR (mT k) t t.length
def l7 (o:Off):Nat:=dC dL o.trays+dC zJ o.totals
def mkO (k:Nat) (o:Off):Off:=⟨mkQ mkD dL k o.trays,mkQ mkT zJ (k+dC dL o.trays) o.totals⟩
theorem OfM.markT {w w':World}{o:Off}{Y U:Value}{m:OM} (h:OfM w o Y U m) {T:List (List (List Int))} (L:T.length=o.trays.length) (hs:w.heap.size<=w'.heap.size) (O:∀b,b<w.heap.size->(∀i,i<m.TV.length->¬(m.M i).D b)->w'.heap[b]? = w.heap[b]?) (Z:∀i (h:i<T.length),Gd w' T[i] (m.TV.getD i default) (m.M i)):OfM w' ⟨T,o.totals⟩ Y U m:=by
 have J:∀b,m.DS b->w'.heap[b]? = w.heap[b]?:=λb F=>O b (h.lt b (.inr F)) λi hi I=>h.dis b (.inr ⟨i,hi,I⟩) F;refine⟨h.tr.mono (λ_ _ h=>h) λb F=>O b (h.lt b (.inl (.inl F))) λi hi I=>h.tout i b hi I F,by show T.length=_;rw[L];exact h.tn,λi hi=>?_,h.tdis,h.tout,h.sr.mono (λ_ _ h=>h) λb F=>J b (.inl F),h.sl.mono (λ_ _ _ _ h=>h) λi b hi F=>J b (.inr ⟨i,by simpa using hi,F⟩),h.sout,h.dis,λb F=>AZ (h.lt b F) hs⟩;have H:i<T.length:=by rw[L,h.tn];exact hi
 show Vs.Dk w' ((T.getD i []).map (E cI)) _ _
 rw[show T.getD i []=T[i] by simp[H]];exact Z i H
theorem OfM.markS {w w':World}{o:Off}{tv sv:Value}{m:OM} (h:OfM w o tv sv m) {U:List (List Tot)} (O:U.length=o.totals.length) (Y:w.heap.size<=w'.heap.size) (Z:∀b,b<w.heap.size->(∀i,i<m.SV.length->m.ys i≠some b)->w'.heap[b]? = w.heap[b]?) (hd:∀i (h:i<U.length),Gt w' U[i] (m.SV.getD i default) (m.ys i,m.cs i)):OfM w' ⟨o.trays,U⟩ tv sv m:=by
 have L:∀b,m.DT b->w'.heap[b]? = w.heap[b]?:=λb F=>Z b (h.lt b (.inl F)) λi hi J=>h.dis b F (.inr ⟨i,hi,J⟩);refine⟨h.tr.mono (λ_ _ h=>h) λb F=>L b (.inl F),h.tn,λi hi=>(h.dk i hi).same Y λb F=>L b (.inr ⟨i,hi,F⟩),h.tdis,h.tout,h.sr.mono (λ_ _ h=>h) λb F=>Z b (h.lt b (.inr (.inl F))) λi hi J=>h.sout i b hi J F,⟨by simp[O,h.sn],λi hi=>?_,h.sl.dif⟩,h.sout,h.dis,λb F=>AZ (h.lt b F) Y⟩;have I:i<m.SV.length:=by simpa using hi
 have H:i<U.length:=by rw[O,h.sn];exact I
 have:=(hd i H).1;rw[show(U.map (E cT)).getD i []=E cT U[i] by simp[H],show(m.SV.map slW).getD i undef=slW (m.SV.getD i default) by simp[I]];exact this
theorem aDh (l:List (List (List Int))) (Z:wU l) {V:List Sl}{M:Nat->Vs.Mem} (H:l.length=V.length) {k0:Nat} (J:0<k0) (Y:k0+dC dL l<=900000000) {S:Nat->Prop}{w:World}{v:Value} (L:∀b,S b->b<w.heap.size) (he:Env S w) (I:∀i b,i<V.length->(M i).D b->¬S b) (h0:RC S w (.sl 1 (E sV V)) v)
  (U:∀i (h:i<l.length),Gd w l[i] (V.getD i default) (M i)) (O:∀i j b,i<V.length->j<V.length->(M i).D b->(M j).D b->i=j) :
  Calls Tryz.prog F.nJ #[v,.int .i64 (k0:Nat)] w λe w'=>e=.returned (.int .i64 (k0+dC dL l:Nat))∧w.heap.size<=w'.heap.size∧(∀b,b<w.heap.size->(∀i,i<V.length->¬(M i).D b)->w'.heap[b]? = w.heap[b]?)∧(w'.os=w.os∧w'.output=w.output)∧∀i (h:i<(mkQ mkD dL k0 l).length),Gd w' (mkQ mkD dL k0 l)[i] (V.getD i default) (M i):=
 aKd Cd.l_markCardSS_k.o Cd.l_markCardSS_k.n Cd.l_markCardSS_k.r (by kernel_rfl) (lT Cd.l_markCardS_k.o) (D:=Vs.Mem.D) (G:=Gd) (mk:=mkD) (tot:=dL) (K:=900000000) (by decide) aH9 (λw d s m h=>h.lt)
  (λd O k S w s m J Y L I U=>@aEs ⟨[]⟩ k (by omega) S w (slW s) d m (Z.2 d O) L (λp hp=>by cases hp) I U) H (by rw[←H];exact Z.1) J Y L he I h0 U O
theorem aCE (l:List (List Tot)) (hl:tL l) {V:List Sl}{M:Nat->Option Nat×Nat} (H:l.length=V.length) {k0:Nat} (I:0<k0) (Z:k0+dC zJ l<=900000000) {S:Nat->Prop}{w:World}{v:Value} (O:∀b,S b->b<w.heap.size) (he:Env S w) (J:∀i b,i<V.length->Dt (M i) b->¬S b) (h0:RC S w (.sl 1 (E sV V)) v)
  (L:∀i (h:i<l.length),Gt w l[i] (V.getD i default) (M i)) (hd:∀i j b,i<V.length->j<V.length->Dt (M i) b->Dt (M j) b->i=j) :
  Calls Tryz.prog F.lL #[v,.int .i64 (k0:Nat)] w λe w'=>e=.returned (.int .i64 (k0+dC zJ l:Nat))∧w.heap.size<=w'.heap.size∧(∀b,b<w.heap.size->(∀i,i<V.length->¬Dt (M i) b)->w'.heap[b]? = w.heap[b]?)∧(w'.os=w.os∧w'.output=w.output)∧∀i (h:i<(mkQ mkT zJ k0 l).length),Gt w' (mkQ mkT zJ k0 l)[i] (V.getD i default) (M i):=
 aKd Cd.l_markTotalSS_k.o Cd.l_markTotalSS_k.n Cd.l_markTotalSS_k.r (by kernel_rfl) (lT Cd.l_markTotalS_k.o) (D:=Dt) (G:=Gt) (mk:=mkT) (tot:=zJ) (K:=900000000) (by decide) aEJ (λw d s m h=>h.2)
  (λt ht k S w s m I Z O J L=>by
    have h1:=L.1;have hF:=@aGA ⟨[]⟩ t k (hl.2 t ht).1 I (by omega);have Y:(E cT t).length=t.length:=aH _;refine(@aDW ⟨[]⟩ Tryz.prog w S _ _ _ _ _ _ (by rw[Y];exact hF) (aMB _) m.1 m.2 (slW s) (h1.mono (λb U=>J b U) λ_ _=>rfl) O (λp hp=>by cases hp)).mono ?_;rintro e w' ⟨rfl,q1,q2,q3,q4,_⟩;exact⟨rfl,q1,q2,q3,q4.mono (λ_ _ h=>h) λ_ _=>rfl,λb U=>AZ (L.2 b U) q1⟩) H (by rw[←H];exact hl.1) I Z O he J h0 L hd
attribute [local go_sem] Int.reduceBEq Int.reduceBNe cC aH Af Ag Ao Aq Ae Aj Ad Al Ac Ai Ap Av Am Ak AR BQ Vs.Name.t.injEq Ar AY Vs.Name.b.injEq AJ Bp cD cTs cO in
set_option maxRecDepth 20000 in
theorem zF (o:Off) (ho:eD o) {tv sv:Sl}{m:OM}{k0:Nat} (h3:0<k0) (hk:k0+l7 o<=900000000) {S:Nat->Prop}{w:World} (hS:∀b,S b->b<w.heap.size) (he:Env S w) (h5:∀b,m.D b->¬S b) (hu:OfM w o (slW tv) (slW sv) m) :
  Calls Tryz.prog F.gV #[.agg #[slW tv,slW sv],.int .i64 (k0:Nat)] w λe w'=>e=.returned (.int .i64 (k0+l7 o:Nat))∧w.heap.size<=w'.heap.size∧(∀b,b<w.heap.size->¬m.D b->w'.heap[b]? = w.heap[b]?)∧(w'.os=w.os∧w'.output=w.output)∧OfM w' (mkO k0 o) (slW tv) (slW sv) m:=by
 obtain⟨wO,rfl⟩:∃x,x=w:=⟨_,rfl⟩;obtain⟨h1,h2,_⟩:=Cd.l_markOffice_k.o;obtain⟨h9,J,hc⟩:=A7.1 h2;have hz:(Tryz.f26.body.map (zB Tryz.f26.ntmps (bC Tryz.prog)))=some true:=by kernel_rfl
 rw[J] at hz;have hr:=bA Tryz.mixed;refine vH (dr:=bC Tryz.prog) (ac:=Cd.gV) h1 J hc (by simpa using hz) (args:=[.agg [.v (slW tv),.v (slW sv)],.v (.int .i64 (k0:Nat))]) (by rw[Cd.l_markOffice_k.n];exact Bd rfl) hS he rfl (λj hj=>?_) m.D λa I=>?_
 .match j,hj with
  |0,_=>exact aHw _ _
  |1,_=>exact .v _
 generalize ha:(⟨Tryz.f26.ntmps,wO,S,m.D,λ_=>none,λ_=>0,λ_=>none⟩:Ctx)=C0 at I;have h6:C0.nt=Tryz.f26.ntmps:=by rw[←ha]
 have hf:C0.w0=wO:=by rw[←ha]
 have hM:∀b,m.D b->C0.Mut b:=λb h=>by rw[←ha];exact h
 have hp:=I.later;have hs:=I.hid (D:=m.D) hu.lt h5 (λb _ n hn=>by simp[St.f,aA] at hn);have hg:=I.anew;generalize hx:C0.anew wO S _ _=C1 at hp hs hg;have hy:C1.w0=wO:=by rw[←hx];rfl
 have Y:C1.nt=Tryz.f26.ntmps:=hp.nt.trans h6;unfold Cd.gV;refine At.step ⟨[(1,.v (.int .i64 (k0:Nat))),(2,.ptr (.t 2 0) 0 0)],[(.t 2 0,.var [.v (slW tv),.v (slW sv)] false)]⟩ hr hg Y ?_ λa w1 S1 ρ1 κ1 I=>?_
 .simp -dsimp only[go_sem,slW]
  try simp[Vs.LeL,Vs.look,aA]
 have h4:k0+dC dL o.trays<=900000000:=by unfold l7 at hk;omega
 refine At.seq (At.mark (R:=λw'=>OfM w' ⟨mkQ mkD dL k0 o.trays,o.totals⟩ (slW tv) (slW sv) m) (τ:=⟨[(6,.v (slW tv)),(7,.v (.int .i64 (k0:Nat))),(2,.ptr (.t 2 0) 0 0)],[(.t 2 0,.var [.v (slW tv),.v (slW sv)] false)]⟩) (τ':=⟨[(1,.v (.int .i64 (k0+dC dL o.trays:Nat))),(2,.ptr (.t 2 0) 0 0)],[(.t 2 0,.var [.v (slW tv),.v (slW sv)] false)]⟩) I Y hp hs hM (pre:=[⟨some 5,.fieldAddr 0 (.tmp 2),none⟩,⟨some 6,.load false 1 (.tmp 5),none⟩,⟨some 7,.mv (.tmp 1),none⟩]) (post:=[⟨some 1,.mv (.tmp 8),none⟩]) (ts:=[6,7]) (vs:=[slW tv,.int .i64 (k0:Nat)]) (u:=.int .i64 (k0+dC dL o.trays:Nat)) (lT Cd.l_markCardSS_k.o) (by rw[Cd.l_markOffice_k.n];omega) ?_ rfl (λi hi=>by match i,hi with|0,_=>rfl|1,_=>rfl) (λw S Z he hl hd L=>?_) ?_ λa w C S ρ κ I U hq hh hR=>?_)
 .simp -dsimp only[go_sem,slW]
  first|(simp[Vs.LeL,Vs.look,aA];done)|(and_intros<;>first|omega|rfl|(simp[Vs.LeL,Vs.look,aA];done))
 .rw[hy] at hd L;have H:=hu.same hd L
  refine (aDh o.trays ho.1 (M:=m.M) (S:=λb=>S b∨m.xt=some b) H.tn h3 h4 (λb J=>J.elim (Z b) λh=>H.lt b (.inl (.inl h))) (he.mono (λ_ h=>.inl h) λ_ _=>rfl) (λi b hi J h=>h.elim (hl b (.inl (.inr ⟨i,hi,J⟩))) (H.tout i b hi J)) (H.tr.rc.mono (λ_ h=>.inr h) λ_ _=>rfl) (λi h=>by
    have:=H.dk i (by rw[←H.tn];exact h)
    rwa [show o.trays.getD i []=o.trays[i] by simp[h]] at this) H.tdis).mono ?_
  rintro e w' ⟨rfl,q1,q2,q3,q4⟩;exact⟨rfl,q1,λb J hD=>q2 b J λi hi h=>hD (.inl (.inr ⟨i,hi,h⟩)),q3,H.markT (yL _ _) q1 q2 q4⟩
 .simp -dsimp only[go_sem,slW]
  first|(simp[Vs.LeL,Vs.look,aA];done)|(and_intros<;>first|omega|rfl|(simp[Vs.LeL,Vs.look,aA];done))
 refine At.seq (At.mark (R:=λw'=>OfM w' (mkO k0 o) (slW tv) (slW sv) m) (τ:=⟨[(10,.v (slW sv)),(11,.v (.int .i64 (k0+dC dL o.trays:Nat)))],[]⟩) (τ':=⟨[(1,.v (.int .i64 (k0+l7 o:Nat)))],[]⟩) I U hq hh hM (pre:=[⟨some 9,.fieldAddr 1 (.tmp 2),none⟩,⟨some 10,.load false 1 (.tmp 9),none⟩,⟨some 11,.mv (.tmp 1),none⟩]) (post:=[⟨some 1,.mv (.tmp 12),none⟩]) (ts:=[10,11]) (vs:=[slW sv,.int .i64 (k0+dC dL o.trays:Nat)]) (u:=.int .i64 (k0+l7 o:Nat)) (lT Cd.l_markTotalSS_k.o) (by rw[Cd.l_markOffice_k.n];omega) ?_ rfl (λi hi=>by match i,hi with|0,_=>rfl|1,_=>rfl) (λw S Z he hl hd L=>?_) ?_ λa w C S ρ κ I U hq hh hR=>?_)
 .simp -dsimp only[go_sem,slW]
  first|(simp[Vs.LeL,Vs.look,aA];done)|(and_intros<;>first|omega|rfl|(simp[Vs.LeL,Vs.look,aA];done))
 .have H:=hR.same hd L;have eT:k0+l7 o=k0+dC dL o.trays+dC zJ o.totals:=by unfold l7;omega
  have hw:o.totals.length=m.SV.length:=H.sn;refine(aCE o.totals ho.2 (V:=m.SV) (M:=λi=>(m.ys i,m.cs i)) (S:=λb=>S b∨m.xs=some b) hw (by omega) (by omega) (λb J=>J.elim (Z b) λh=>H.lt b (.inr (.inl h))) (he.mono (λ_ h=>.inl h) λ_ _=>rfl) (λi b hi J h=>h.elim (hl b (.inr (.inr ⟨i,hi,J⟩))) (H.sout i b hi J)) (H.sr.rc.mono (λ_ h=>.inr h) λ_ _=>rfl) (λi h=>?_) (λi j b hi hj=>H.sl.dif i j b (by simpa using hi) (by simpa using hj))).mono ?_
  .have hi:i<m.SV.length:=by rw[←hw];exact h
   have:=H.sl.row i (by simpa using hi);rw[show(o.totals.map (E cT)).getD i []=E cT o.totals[i] by simp[h],show(m.SV.map slW).getD i undef=slW (m.SV.getD i default) by simp[hi]] at this;exact⟨this,λb J=>H.lt b (.inr (.inr ⟨i,hi,J⟩))⟩
  .rintro e w' ⟨rfl,q1,q2,q3,q4⟩;exact⟨by rw[eT],q1,λb J hD=>q2 b J λi hi h=>hD (.inr (.inr ⟨i,hi,h⟩)),q3,H.markS (yL _ _) q1 q2 q4⟩
 .simp -dsimp only[go_sem,slW]
  first|(simp[Vs.LeL,Vs.look,aA];done)|(and_intros<;>first|omega|rfl|(simp[Vs.LeL,Vs.look,aA];done))
 refine At.step ⟨[(4,.v (.int .i64 (k0+l7 o:Nat)))],[]⟩ hr I U ?_ λa w7 S7 ρ7 κ7 O=>?_
 .simp -dsimp only[go_sem,slW];simp[Vs.LeL,Vs.look,aA]
 refine At.ret ⟨.inl rfl,O.defers,?_⟩
 obtain ⟨x,v,h7,h8,hv⟩:=l5 O (fn:=Tryz.f26) (K:=λx=>x=.v (.int .i64 (k0+l7 o:Nat))) (by
   show dR Tryz.prog _ _ [_]
   simp[dR,qP,Vs.look,eH])
 subst h7;have hm:=O.back hq;refine⟨v,hv,by rw[bI h8],by have:=hm.size;rw[hf] at this;exact this,λb J ht=>?_,by have:=hm.out;rw[hf] at this;exact this,hR.same O.size (hh.same O).1⟩;have:=hm.old b (by rw[hf];exact J) (by rw[←ha];exact ht);rw[hf] at this;exact this
end
section
variable [Vs.Envs]
attribute [local irreducible] Vs.Fn mkD dL mtx bL aP bM bP l03 chB rk cd3 chI stp aQ
theorem aCg {l:List Int}{n:Int} (F:l.length<2 ^ 63) (h0:0<=n) (H:n<=1048576) (h:0<=szI l n):szI l n<=n:=(aGm F h0 H h).1
def aKY (l:List (List Int)):Prop:=l.length<2 ^ 63∧∀c,c∈l->c.length<2 ^ 63
def bigD (l:List (List (List Int))):Prop:=l.length<2 ^ 63∧∀c,c∈l->aKY c
def bigT (l:List Tot):Prop:=l.length<2 ^ 63∧∀c,c∈l->c.1.size<2 ^ 63
def aMD (l:List (List Tot)):Prop:=l.length<2 ^ 63∧∀c,c∈l->bigT c
def aKX (o:Off):Prop:=bigD o.trays∧aMD o.totals
def zK (l:List (List Int)) (n:Int):Int:=szL szI l n
def aDc (l:List Tot) (n:Int):Int:=szL aDp l n
theorem yA {l:List (List Int)} (F:aKY l) (n:Int) (h0:0<=n) (H:n<=1048576) (h:0<=zK l n):zK l n<=n:=
 (rW (λx I _ a b c=>aCg (F.2 x I) a b c) F.1 h0 H h).1
theorem aA0 {l:List Tot} (F:bigT l) (n:Int) (h0:0<=n) (H:n<=1048576) (h:0<=aDc l n):aDc l n<=n:=
 (rW (λx I _ a b c=>wQ (F.2 x I) a b c) F.1 h0 H h).1
theorem aGn {l:List (List Int)} (F:aKY l) {n:Int} (h0:0<=n) (J:n<=1048576) (h:0<=zK l n):aY l:=by
 refine⟨?_,λc I=>?_⟩
 .have:=(rW (λx H _ a b c=>aCg (F.2 x H) a b c) F.1 h0 J h).2;omega
 .obtain⟨m,L,h2,O⟩:=aEa (λx H _ a b c=>aCg (F.2 x H) a b c) F.1 h0 J h c I;have:=(aGm (F.2 c I) L h2 O).2;omega
theorem aGj {l:List Tot} (F:bigT l) {n:Int} (h0:0<=n) (J:n<=1048576) (h:0<=aDc l n):aEf l:=by
 refine⟨?_,λc I=>?_⟩
 .have:=(rW (λx H _ a b c=>wQ (F.2 x H) a b c) F.1 h0 J h).2;omega
 .obtain⟨m,L,h2,O⟩:=aEa (λx H _ a b c=>wQ (F.2 x H) a b c) F.1 h0 J h c I;have:=(aGk (F.2 c I) L h2 O).2;omega
def lG (o:Off) (n:Int):Int:=if szL zK o.trays n<0 then -1 else if szL aDc o.totals (szL zK o.trays n)<0 then -1 else szL aDc o.totals (szL zK o.trays n)
theorem aGl {o:Off} (F:aKX o) {n:Int} (h0:0<=n) (U:n<=1048576) (h:0<=lG o n):lG o n<=n∧eD o:=by
 unfold lG at h⊢;split at h
 .omega
 .rename_i Y;rw[AC Y];split at h
  .omega
  .rename_i h2;rw[AC h2];obtain⟨Z,a2⟩:=rW (λx H n a b c=>yA (F.1.2 x H) n a b c) F.1.1 h0 U (by omega:0<=szL zK o.trays n);obtain⟨b1,b2⟩:=rW (λx H n a b c=>aA0 (F.2.2 x H) n a b c) F.2.1 (by omega) (by omega) h;refine⟨by omega,⟨by omega,λd I=>?_⟩,⟨by omega,λd I=>?_⟩⟩
   .obtain⟨m,J,L,O⟩:=aEa (λx H n a b c=>yA (F.1.2 x H) n a b c) F.1.1 h0 U (by omega:0<=szL zK o.trays n) d I;exact aGn (F.1.2 d I) J L O
   .obtain⟨m,J,L,O⟩:=aEa (λx H n a b c=>aA0 (F.2.2 x H) n a b c) F.2.1 (by omega) (by omega) h d I;exact aGj (F.2.2 d I) J L O
theorem aJs (l:List (List (List Int))) (n:Int) (H:bigD l) (J:0<=n∧n<=1048576):Fz F.sN [.sl 1 (E cD l),.v (.int .i64 n)] (.v (.int .i64 (szL zK l n))):=
 aJp Tryz.mixed (d:=λx=>.sl 1 (E cC x)) (g:=F.rQ) Cd.l_szCardSS_k.o Cd.l_szCardSS_k.n Cd.l_szCardSS_k.r rfl zK (λ_=>rfl) (λx I n h0 J=>aLk x n (H.2 x I).2 (H.2 x I).1 ⟨h0,J⟩) (λx I n a b c=>yA (H.2 x I) n a b c) n H.1 J
theorem aIh (l:List (List Tot)) (n:Int) (H:aMD l) (J:0<=n∧n<=1048576):Fz F.qA [.sl 1 (E cTs l),.v (.int .i64 n)] (.v (.int .i64 (szL aDc l n))):=
 aJp Tryz.mixed (d:=λx=>.sl 2 (E cT x)) (g:=F.oP) Cd.l_szTotalSS_k.o Cd.l_szTotalSS_k.n Cd.l_szTotalSS_k.r rfl aDc (λ_=>rfl) (λx I n h0 J=>aJl x n (H.2 x I).2 (H.2 x I).1 ⟨h0,J⟩) (λx I n a b c=>aA0 (H.2 x I) n a b c) n H.1 J
theorem aJj (l:List (List (List Int))) (H:wU l):Fz F.oO [.sl 1 (E cD l)] (.sl 1 (E cD l)):=
 aJh Tryz.mixed (d:=λx=>.sl 1 (E cC x)) (y:=24) (z:=[.v (.slice none 0 0)]) (g:=F.jJ) Cd.l_toCardSS_k.o Cd.l_toCardSS_k.n Cd.l_toCardSS_k.r rfl rfl rfl (λ_=>⟨_,_,rfl⟩) (λx I=>aLf x (H.2 x I).2 (H.2 x I).1) H.1 (by omega)
theorem aIg (l:List (List Tot)) (H:tL l):Fz F.mQ [.sl 1 (E cTs l)] (.sl 1 (E cTs l)):=
 aJh Tryz.mixed (d:=λx=>.sl 2 (E cT x)) (y:=24) (z:=[.v (.slice none 0 0)]) (g:=F.mF) Cd.l_toTotalSS_k.o Cd.l_toTotalSS_k.n Cd.l_toTotalSS_k.r rfl rfl rfl (λ_=>⟨_,_,rfl⟩) (λx I=>aJe x (H.2 x I).1) H.1 (by omega)
theorem aKG (l:List (List (List Int))) (H:wU l):Fz F.sP [.sl 1 (E cD l),.sl 1 (E cD l)] (.v (.bool true)):=
 aKE Tryz.mixed (d:=λx=>.sl 1 (E cC x)) (g:=F.rT) Cd.l_eqCardSS_k.o Cd.l_eqCardSS_k.n Cd.l_eqCardSS_k.r rfl (λ_=>rfl) (λx I=>aL5 x (H.2 x I).2 (H.2 x I).1) H.1
theorem aIR (l:List (List Tot)) (H:tL l):Fz F.qC [.sl 1 (E cTs l),.sl 1 (E cTs l)] (.v (.bool true)):=
 aKE Tryz.mixed (d:=λx=>.sl 2 (E cT x)) (g:=F.oU) Cd.l_eqTotalSS_k.o Cd.l_eqTotalSS_k.n Cd.l_eqTotalSS_k.r rfl (λ_=>rfl) (λx I=>aKC x (H.2 x I).1) H.1
theorem aCf (o:Off) (n:Int) (H:aKX o) (I:0<=n∧n<=1048576):Fz F.sK [.agg (cO o),.v (.int .i64 n)] (.v (.int .i64 (lG o n))):=by
 refine fn0 Cd.l_szOffice_k λX=>?_;simp -dsimp only[go_sem,cO];refine aB.flat (aJs _ _ H.1 I) rfl ?_;simp -dsimp only[go_sem];refine Br.mk (λh=>?_) λh=>?_
 .simp -dsimp only[go_sem];simp only[Bb] at h;simp[lG,h]
 .simp only[BD] at h;have L:=(rW (λx J n a b c=>yA (H.1.2 x J) n a b c) H.1.1 I.1 I.2 (by omega:0<=szL zK o.trays n)).1;simp -dsimp only[go_sem];refine aB.flat (aIh _ _ H.2 ⟨by omega,by omega⟩) rfl ?_;simp -dsimp only[go_sem];refine Br.mk (λh2=>?_) λh2=>?_
  .simp -dsimp only[go_sem];simp only[Bb] at h2;simp[lG,h,h2]
  .simp -dsimp only[go_sem];simp only[BD] at h2;simp[lG,h,h2]
theorem aCe (o:Off) (H:eD o):Fz F.gK [.agg (cO o)] (.agg (cO o)):=by
 refine fn0 Cd.l_toOffice_k λX=>?_
 repeat' first|simp -dsimp only[go_sem,cO]|apply Br.mk<;>intro h<;>try simp -dsimp only[h]|refine aB.c (by first|exact aJj _ H.1|exact aIg _ H.2) ?_|refine aC ?_|fail
 all_goals(exact⟨_,_,rfl,rfl⟩)
theorem aAO (o:Off) (H:eD o):Fz F.j5 [.agg (cO o),.agg (cO o)] (.v (.bool true)):=by
 refine fn0 Cd.l_eqOffice_k λX=>?_
 repeat' first|simp -dsimp only[go_sem,cO]|apply Br.mk<;>intro h<;>try simp -dsimp only[h]|refine aB.c (by first|exact aKG _ H.1|exact aIR _ H.2) ?_|refine aC ?_|fail
 all_goals(simp_all)
def gTot (p:S63×I64):Tot:=(p.1.1,p.2.1)
abbrev ACard:={l:List I64 // l.length<2 ^ 63}
abbrev aEN:={l:List ACard // l.length<2 ^ 63}
abbrev aEM:={l:List aEN // l.length<2 ^ 63}
abbrev aMn:={l:List (S63×I64) // l.length<2 ^ 63}
abbrev aDa:={l:List aMn // l.length<2 ^ 63}
def aCM (d:aEN):List (List Int):=d.1.map λc=>c.1.map λn=>n.1
def gOff (p:aEM×aDa):Off:=⟨p.1.1.map aCM,p.2.1.map λt=>t.1.map gTot⟩
theorem aGV (d:aEN):aKY (aCM d):=by
 refine⟨by simpa[aCM] using d.2,λc F=>?_⟩;obtain⟨x,_,rfl⟩:=Bq.1 F;simpa using x.2
theorem gOff_big (p:aEM×aDa):aKX (gOff p):=by
 refine⟨⟨by simpa[gOff] using p.1.2,λd F=>?_⟩,⟨by simpa[gOff] using p.2.2,λd F=>?_⟩⟩
 .obtain⟨x,_,rfl⟩:=Bq.1 F;exact aGV x
 .obtain⟨x,_,rfl⟩:=Bq.1 F;refine⟨by simpa using x.2,λt H=>?_⟩;obtain⟨y,_,rfl⟩:=Bq.1 H;exact y.1.2
theorem aGU (d:aEN):E cC (aCM d)=d.1.map aDP:=by
 simp only[aCM,aK6];congr 1
 funext c
 simp only[cC,aK6];rfl
theorem gOff_enc (p:aEM×aDa):cO (gOff p)=aHU p:=by
 simp only[cO,gOff,aK6,cD,cTs,aGU];rfl
theorem aEX {α:Type}{f:α->Int->Int}{g:α->Nat}:∀{l:List α}{n:Int},(∀x,x∈l->∀n,0<=n->n<=1048576->0<=f x n->f x n+g x<=n)->0<=n->n<=1048576->0<=vM f l n->vM f l n+dC g l<=n
 | [],n,_,_,_,_=>by simp[vM,dC]
 | x::r,n,hf,h0,hn,h=>by
  simp only[vM] at h⊢;split
  .rename_i F;rw[AP F] at h;omega
  .rename_i F;rw[AC F] at h;have h2:=hf x (by simp) n h0 hn (by omega);have:=aEX (g:=g) (λy H=>hf y (by simp[H])) (by omega) (by omega) h;simp only[dC];omega
theorem aBQ {α:Type}{f:α->Int->Int}{g:α->Nat}{l:List α}{n:Int} (H:∀x,x∈l->∀n,0<=n->n<=1048576->0<=f x n->f x n+g x<=n) (I:l.length<2 ^ 63) (h0:0<=n) (J:n<=1048576) (h:0<=szL f l n):szL f l n+l.length+dC g l<=n:=by
 unfold szL at h⊢;split
 .rename_i F;rw[AP F] at h;omega
 .rename_i F;rw[AC F] at h;rw[aV (by omega) (by omega)] at h F⊢;have:=aEX (g:=g) H (by omega) (by omega) h;omega
theorem aIl {α:Type} (l:List α):dC (λ_=>0) l=0:=by
 induction l with
 |nil=>rfl
 |cons x r ih=>simp[dC,ih]
theorem aEP (d:List (List Int)):dL d=dC List.length d:=by
 induction d with
 |nil=>simp[dC,dL]
 |cons x r ih=>simp[dC,dL,ih]
theorem aEO (l:List (List Tot)):dC zJ l=2*dC List.length l:=by
 induction l with
 |nil=>rfl
 |cons x r ih=>simp only[dC,zJ,ih];omega
theorem aLj {l:List Int}{n:Int} (H:l.length<2 ^ 63) (h0:0<=n) (I:n<=1048576) (h:0<=szI l n):szI l n+l.length<=n:=by
 unfold szI at h⊢;split
 .rename_i F;rw[AP F] at h;omega
 .rename_i F;rw[AC F] at h;rw[aV (by omega) (by omega)] at h F⊢;omega
theorem aJr {d:List (List Int)} (F:aKY d) (n:Int) (h0:0<=n) (H:n<=1048576) (h:0<=zK d n):zK d n+dL d<=n:=by
 rw[aEP];have:=aBQ (f:=szI) (g:=List.length) (λx I n a b c=>aLj (F.2 x I) a b c) F.1 h0 H h;unfold zK;omega
theorem aJm {t:List Tot} (F:bigT t) (n:Int) (h0:0<=n) (H:n<=1048576) (h:0<=aDc t n):aDc t n+t.length<=n:=by
 have:=aBQ (f:=aDp) (g:=λ_=>0) (λx I n a b c=>by have:=wQ (F.2 x I) a b c;simpa using this) F.1 h0 H h;rw[aIl] at this;unfold aDc;omega
theorem aIi {o:Off} (F:aKX o) {n:Int} (h0:0<=n) (I:n<=1048576) (h:0<=lG o n):1+l7 o<=900000000:=by
 unfold lG at h;split at h
 .omega
 .rename_i J;split at h
  .omega
  .rename_i h2;have a:=aBQ (g:=dL) (λx H n a b c=>aJr (F.1.2 x H) n a b c) F.1.1 h0 I (by omega:0<=szL zK o.trays n);have b:=aBQ (g:=List.length) (λx H n a b c=>aJm (F.2.2 x H) n a b c) F.2.1 (by omega) (by omega) h;have c:=aEO o.totals;unfold l7;omega
theorem aBS {α:Type}{g:α->Nat}{B:Nat}:∀{l:List α},(∀x,x∈l->g x<=B)->dC g l<=l.length*B
 | [],_=>by simp[dC]
 | x::r,h=>by
  have H:=h x Dn;have h2:=aBS (l:=r) λc F=>h c (C8 _ F);simp only[dC,Ac,CY];omega
theorem aLH {w:Nat}{o:Off} (h:okO w o):1+l7 o<=900000000:=by
 have I:=iO h;obtain⟨hw,J,O,U,_⟩:=h
 have a:=aBS (g:=dL) (B:=20971520) (l:=o.trays) λd F=>by
  rw[aEP];have Z:=aBS (g:=List.length) (B:=20) (l:=d) λc L=>by have:=(O d F).2 c L;omega
  have h2:=(I.1.2 d F).1;omega
 have b:=aBS (g:=List.length) (B:=1048576) (l:=o.totals) λt H=>(I.2.2 t H).1;have c:=aEO o.totals;have Y:=Bl b (Bn 1048576 U);rw[J] at a;unfold l7;omega
theorem aGR (l:List (List (List Int))) (I:wU l) {k0:Nat} (H:0<k0) (L:k0+dC dL l<=900000000):Fz F.nM [.sl 1 (E cD (mkQ mkD dL k0 l)),.v (.int .i64 (k0:Nat))] (.v (.int .i64 (k0+dC dL l:Nat))):=
 aKt Cd.l_heldCardSS_k.o Cd.l_heldCardSS_k.n Cd.l_heldCardSS_k.r (c:=λd=>E cC d) (kk:=1) (K:=900000000) (by decide) (λd J k O h2=>aIN d k (I.2 d J) (by omega)) I.1 H L
theorem aFI (l:List (List Tot)) (I:tL l) {k0:Nat} (H:0<k0) (L:k0+dC zJ l<=900000000):Fz F.lM [.sl 1 (E cTs (mkQ mkT zJ k0 l)),.v (.int .i64 (k0:Nat))] (.v (.int .i64 (k0+dC zJ l:Nat))):=
 aKt Cd.l_heldTotalSS_k.o Cd.l_heldTotalSS_k.n Cd.l_heldTotalSS_k.r (c:=λt=>E cT t) (kk:=2) (K:=900000000) (by decide) (λt O k J h2=>aGO t k (I.2 t O).1 J (by omega)) I.1 H L
theorem aGP (o:Off) (J:eD o) {k0:Nat} (H:0<k0) (Z:k0+l7 o<=900000000):Fz F.kV [.agg (cO (mkO k0 o)),.v (.int .i64 (k0:Nat))] (.v (.int .i64 (k0+l7 o:Nat))):=by
 have U:k0+l7 o=k0+dC dL o.trays+dC zJ o.totals:=by unfold l7;omega
 have L:=aGR o.trays J.1 H (by omega);have O:=aFI o.totals J.2 (k0:=k0+dC dL o.trays) (by omega) (by omega);have Y:decide (((k0+dC dL o.trays:Nat):Int)<0)=false:=AQ (by omega);have I:decide (((k0+dC dL o.trays+dC zJ o.totals:Nat):Int)<0)=false:=AQ (by omega);rw[U];refine fn0 Cd.l_heldOffice_k λX=>?_
 repeat' first|simp -dsimp only[go_sem,cO,mkO,Y,I]|apply Br.mk<;>intro h<;>try simp -dsimp only[h]|refine aB.c (by first|exact L|exact O) ?_|refine aC ?_|fail
 all_goals simp_all
end
section
variable [Vs.Envs]
attribute [local irreducible] Vs.Fn aZ mgC iN mtC iU pJ mat uF dkC dkL jS kS mY wO dsC stO nP bL aP bM bP l03 chB rk cd3 chI stp aQ
attribute [local go_sem] Bf BA Int.reduceBEq Int.reduceBNe cC cFd Af Ag Ao Aq Ae Aj Ad Al Ac Ai Ap aH cD cO cP slW in
set_option maxRecDepth 20000 in
theorem aI8 (x:Stp) (hx:x.text.size<=1048576) (T:List (List (List Int))) (U:List (List Tot)) (wd:Nat) (ho:okO wd ⟨T,U⟩) (hf:nP ⟨T,U⟩=true) (h0:dsC x ⟨T,U⟩=0) {S:Nat->Prop}{w:World}{vs:Array Value} (hS:∀b,S b->b<w.heap.size) (he:Env S w) (ht:vs.size=2) (L:∀j,j<2->RC S w (([.agg [.sl 1 (E cD T),.sl 1 (E cTs U)],.agg (cS x)]:List AV).getD j .junk) (vs.getD j undef)):Calls Tryz.prog F.iQ vs w (λe0 w0=>∃Y O,e0=.returned (.tuple #[.agg #[Y,O],.int .i64 0])∧jU w w0∧aBJ w w0 (stO x ⟨T,U⟩) Y O):=by
 have VO:Fz F.jN [.agg [.sl 1 (E cD T),.sl 1 (E cTs U)]] (.v (.bool true)):=by
  have:=uW ⟨T,U⟩ (iO ho);rw[hf] at this;exact this
 obtain⟨g1,g2,_⟩:=Cd.i_DoStep_k.o;obtain⟨hy,J,hc⟩:=A7.1 g2;have hz:(Tryz.f24.body.map (zB Tryz.f24.ntmps (bC Tryz.prog)))=some true:=by kernel_rfl
 rw[J] at hz;have hj:=bA Tryz.mixed;refine Vs.Pt.calls (dr:=bC Tryz.prog) (ac:=Cd.iQ) g1 J hc (by simpa using hz) (args:=[.agg [.sl 1 (E cD T),.sl 1 (E cTs U)],.agg (cS x)]) (by rw[Cd.i_DoStep_k.n];exact Bd rfl) hS he ht L λC1 a H hd h1 Z=>?_;unfold Cd.iQ
 refine Z.goS (τ:=⟨[(2,.ptr (.t 2 0) 0 0),(3,.ptr (.t 3 0) 0 0),(4,.ptr (.t 4 0) 0 0)],[(.t 2 0,.var [.sl 1 (E cD T),.sl 1 (E cTs U)] false),(.t 3 0,.var (cS x) false),(.t 4 0,.var [.v (.slice none 0 0),.v (.slice none 0 0)] false)]⟩) hj H 2 _ (E:=λ_ _=>False) [(.t 4 0,.var [.v (.slice none 0 0),.v (.slice none 0 0)] false)] (λp Z=>by
     rw[Av.1 Z];exact⟨rfl,rfl,rfl⟩) [(2,.ro [.sl 1 (E cD T),.sl 1 (E cTs U)]),(3,.ro (cS x)),(4,.ptr (.t 4 0) 0 0)] (λp Z=>?_) (λC hC=>?_) (λi σ h=>h) (λC a w hl hg=>hg.no.elim) λI1 a1 w1 S1 p1 hk=>?_
 .simp only[Am,Ak,AR] at Z;rcases Z with rfl|rfl|rfl
  .exact .inr ⟨rfl,_,rfl,λn hn=>by
     have:n=.t 2 0:=by simpa using hn
     subst this;rfl⟩
  .exact .inr ⟨rfl,_,rfl,λn hn=>by
     have:n=.t 3 0:=by simpa using hn
     subst this;rfl⟩
  .exact .inl ⟨rfl,rfl⟩
 .simp -dsimp only[go_sem,cTs,cS]
  repeat' first|simp -dsimp only[go_sem,cTs,cS]|apply Br.mk<;>intro h<;>try simp -dsimp only[h]|refine aB.c (by first|exact VO) ?_|refine aC ?_|fail
  all_goals first|(simp[Vs.LeL,Vs.look,aA];done)|exact⟨by simp[Vs.LeL,Vs.look,aA],trivial⟩|omega|(and_intros<;>first|trivial|(simp[Vs.LeL,Vs.look,aA];done)|omega)
 refine At.seq (At.rg (hk.rgN H 2 (τ:=⟨[(10,.agg [.sl 1 (E cD T),.sl 1 (E cTs U)]),(11,.agg (cS x)),(4,.ptr (.t 4 0) 0 0)],[(.t 4 0,.var [.v (.slice none 0 0),.v (.slice none 0 0)] false)]⟩) ?_ λa3 w3 S3 p3 I=>I.rgc H (ts:=[10,11]) (ys:=[.agg [.sl 1 (E cD T),.sl 1 (E cTs U)],.agg (cS x)]) (lT Cd.i_doStep_k.o) rfl rfl λus hs hr=>?_))
 .simp -dsimp only[go_sem,cTs,cS]
  first|(simp[Vs.LeL,Vs.look,aA];done)
 refine(aIX x hx T U wd ho h0 I.dom I.env hs hr).mono ?_;rintro e0 w4 ⟨tv0,sv0,rfl,hg,m,hom,hon⟩;obtain⟨Y,O,rfl,rfl⟩:=hom.sls;refine⟨_,rfl,?_⟩;have hw:C1.w0.heap.size<=w3.heap.size:=I.size;have hm:=(I.grow hg (D:=m.D) (λb J=>⟨hon b J,hom.lt b J⟩) [(4,.ptr (.t 4 0) 0 0)] (fvC ⟨rfl,.inl rfl⟩ fvN)).putR (d:=12) (by rw[H,Cd.i_DoStep_k.n];omega) (r:=.tup [.agg [.v (slW Y),.v (slW O)],.v (.int .i64 0)]) (aMw _ _ _)
 letI I5:=Vs.keepE (λb=>S3 b∨m.D b) w4
 refine hm.rgN H 4 (τ:=⟨[(4,.ptr (.t 4 0) 0 0),(5,.v (.int .i64 0))],[(.t 4 0,.var [.v (slW Y),.v (slW O)] false)]⟩) ?_ λa5 w5 S5 p5 ha=>RgL.nil ?_
 .simp -dsimp only[go_sem,cTs,cS]
  first|(simp[Vs.LeL,Vs.look,aA];done)
 obtain ⟨hh,u,ρ,κ,hq,hv,_⟩:=ha.resX (fn:=Tryz.f24) (x:=.tup [.agg [.v (slW Y),.v (slW O)],.v (.int .i64 0)]) (by
   show dR Tryz.prog _ _ [_,_]
   simp -dsimp only[go_sem,cTs,cS]
   try simp[eH])
 have hu:=aJM hv;subst hu;refine At.ret ?_
 try simp only[Exit.inBlock,Exit.then]
 refine⟨by first|exact .inl rfl|exact .inl trivial,hh,_,hq,slW Y,slW O,rfl,hd ▸ ha.out,m,hom.past (S:=λb=>S3 b∨m.D b) (λb J=>.inr J) p5,λb J=>Bl (hd ▸ hw) (hon b J)⟩
end
section
variable [Vs.Envs]
attribute [local irreducible] Vs.Fn mY wO stC dsC stO nP bL aP bM bP l03 chB rk cd3 chI stp aQ
theorem aHA {o:Off} (h:nP o=true):o.trays.length=6:=by
 simp only[nP,Aw,BO] at h;omega
theorem aJ1 {o:Off} (h:nP o=true) {i:Nat} (hi:i<6):uC o i=true:=by
 have H:=aHA h;simp only[nP,Aw] at h;have F:=h.1;rw[aIu] at F;exact F i (by omega)
theorem aEn {o:Off} (h:nP o=true) (U:eD o):okO (wO o.trays) o:=by
 have L:=aHA h
 have hin:∀d,d∈o.trays->okD (wO o.trays) d:=by
  intro d F;obtain⟨i,hi,rfl⟩:=BZ.1 F;have H:=aJ1 h (i:=i) (by omega);rw[uC,getD_lt hi] at H;simp only[Aw,Ct,BO] at H;refine⟨H.1,λc I=>?_⟩;have h0:o.trays[i].length≠0:=by intro e;rw[Bv e] at I;cases I
  rw[←H.2.resolve_left h0];have F:=H.1;simp only[bE,Aw,Az,Bb] at F;exact(F.1 c I).2
 have Y:1<=wO o.trays∧wO o.trays<=20:=by
  have J:∀l:List (List (List Int)),(∀d,d∈l->bE d=true)->1<=wO l∧wO l<=20:=by
   intro l
   induction l with
   |nil=>intro _;simp[wO]
   | cons d r ih =>
    intro h;rw[wO];split
    .exact ih λe O=>h e (by simp[O])
    .rename_i h0;have F:=h d (by simp);have H:0<d.length:=by omega
     simp only[bE,Aw,Az,Bb] at F;have I:=(F.1 d[0] (Aa H)).1;simp only[iH,inB,Aw,Az,Bb] at I;rw[getD_lt H];omega
  exact J _ λd F=>(hin d F).1
 simp only[nP,Aw,Bb] at h;exact⟨Y,L,hin,by omega,U.2.2⟩
def dsO (x:Stp) (o:Off):Off:=if nP o=true∧dsC x o=0 then stO x o else⟨[],[]⟩
def dsK (x:Stp) (o:Off):Int:=if nP o then dsC x o else 1
theorem aIW {x:Stp}{o:Off} (I:eD o):eD (dsO x o)∧1+l7 (dsO x o)<=900000000:=by
 unfold dsO;split
 .rename_i h;have H:=ds_ok (aEn h.1 I) h.2;exact⟨iO H,aLH H⟩
 .exact⟨⟨⟨by simp,λd F=>(by cases F)⟩,⟨by simp,λd F=>(by cases F)⟩⟩,by simp[l7,dC]⟩
theorem aMX {S:Nat->Prop}{w:World}{x y F H:AV}{v:Value} (h:RC S w (.agg [x,y]) v) (I:∀u,RC S w x u->RC S w F u) (h2:∀u,RC S w y u->RC S w H u):RC S w (.agg [F,H]) v:=by
 cases h with
 | agg _ us hl hr =>
  refine .agg _ us hl λj J=>?_
  match j,J with
  |0,_=>exact I _ (hr 0 (by simp))
  |1,_=>exact h2 _ (hr 1 (by simp))
theorem aCn {S:Nat->Prop}{w:World}{k:Nat}{v:Value} (h:RC S w (.v (.slice none 0 0)) v):RC S w (.sl k []) v:=by
 rw[bI (ρ:=λ_=>none) (κ:=λ_=>0) (h:=λ_=>none) (.clo h)];exact .sl k [] none 0 0 0 (λ_=>undef) (by simp) (by simp) (by simp) (by simp) (by simp) ⟨by simp,by decide⟩
theorem aJc {f:FuncId}{ys:List AV}{x y F H:AV}{c:AV} (h:Vs.Fn Tryz.prog f [] ys (.tup [.agg [x,y],c]) []) (J:cZ (.tup [.agg [x,y],c])=true) (I:∀S w u,RC S w x u->RC S w F u) (h2:∀S w u,RC S w y u->RC S w H u):Vs.Fn Tryz.prog f [] ys (.tup [.agg [F,H],c]) []:=
 Vs.Fn.resAs h J λS w v O=>by
  cases O with
  | tup _ vs hl hr =>
   refine .tup _ vs hl λj L=>?_
   match j,L with
   |0,_=>exact aMX (hr 0 (by simp)) (I S w) (h2 S w)
   |1,_=>exact hr 1 (by simp)
theorem aJ5 {f:FuncId}{ys:List AV}{c:Value} (h:Vs.Fn Tryz.prog f [] ys (.tup [.agg [.v (.slice none 0 0),.v (.slice none 0 0)],.v c]) []):Vs.Fn Tryz.prog f [] ys (.tup [.agg (cO ⟨[],[]⟩),.v c]) []:=
 aJc h rfl (λ_ _ _=>aCn) λ_ _ _=>aCn
attribute [local go_sem] Int.reduceBEq Int.reduceBNe cC cFd aH Af Ag Ao Aq Ae Aj Ad Al Ac Ai Ap Av Am Ak AR BQ Vs.Name.t.injEq Ar AY Vs.Name.b.injEq AJ Bp in
theorem aE2 (x:Stp) (I:x.text.size<=1048576) (o:Off) (ho:eD o):Fz F.wY [.agg (cO o),.agg (cS x)] (.tup [.agg (cO (dsO x o)),.v (.int .i64 (dsK x o))]):=by
 have OK:=l15Ok o ho;have WD:=aAD o ho;have LS:=aLS x (wO o.trays:Int) I;cases hb:nP o
 .rw[hb] at OK;rw[show dsO x o=⟨[],[]⟩ by simp[dsO,hb],show dsK x o=1 by simp[dsK,hb]];refine aJ5 ?_;refine fn0 Cd.s_DoStep_k λX=>?_
  repeat' first|simp -dsimp only[go_sem,cO,cS]|apply Br.mk<;>intro h<;>try simp -dsimp only[h]|refine aB.c (by first|exact OK|exact WD|exact LS) ?_|refine aC ?_|fail
  all_goals first|omega|exact⟨_,_,rfl,rfl⟩|exact⟨⟨_,_,rfl,rfl⟩,λh=>h rfl⟩
 have H:=aEn hb ho;rw[hb] at OK;cases hv:mY x (wO o.trays)
 .rw[hv] at LS;have hd:dsC x o=2:=by unfold dsC;rw[hv];rfl
  rw[show dsO x o=⟨[],[]⟩ by simp[dsO,hd],show dsK x o=2 by simp[dsK,hb,hd]];refine aJ5 ?_;refine fn0 Cd.s_DoStep_k λX=>?_
  repeat' first|simp -dsimp only[go_sem,cO,cS]|apply Br.mk<;>intro h<;>try simp -dsimp only[h]|refine aB.c (by first|exact OK|exact WD|exact LS) ?_|refine aC ?_|fail
  all_goals first|omega|exact⟨_,_,rfl,rfl⟩|exact⟨⟨_,_,rfl,rfl⟩,λh=>h rfl⟩
 rw[hv] at LS;have hd:dsC x o=stC x o:=by unfold dsC;rw[AP hv]
 have h6:=H.2.1;have J:(E cD o.trays).take o.trays.length=E cD o.trays:=Ah (by rw[aH];exact Au _);have L:(E cTs o.totals).take o.totals.length=E cTs o.totals:=Ah (by rw[aH];exact Au _);have O:∀t,(E cTs (o.totals++[t])).take (o.totals.length+1)=E cTs (o.totals++[t]):=λt=>Ah (by rw[aH,AX];exact Au _);have U:∀(i:Nat) (d:List (List Int)),(E cD (o.trays.set i d)).take o.trays.length=E cD (o.trays.set i d):=λi d=>Ah (by rw[aH,Ap];exact Au _);by_cases h0:stC x o=0
 .rw[show dsO x o=stO x o by simp[dsO,hb,hd,h0],show dsK x o=0 by simp[dsK,hb,hd,h0]];have hc:dsC x o=0:=by rw[hd];exact h0
  have ha:(stO x o).trays.length=o.trays.length:=by unfold stO;split<;>simp
  by_cases h7:x.kind=7
  .have e1:=aJw (o:=o) h7;by_cases he:o.totals.length=0
   .have Z:=aEu o ho (by omega) he;have Y:=aGD x I o _ H hv he h7 h0;rw[e1];refine fn0 Cd.s_DoStep_k λX=>?_
    repeat' first|simp -dsimp only[go_sem,cO,cS,J,L,O,U]|apply Br.mk<;>intro h<;>try simp -dsimp only[h]|refine aB.borG (B:=[]) (by first|exact Z) rfl ?_|refine aB.borG (B:=[.t 6 0,.t 15 0]) (by first|exact Y) rfl ?_|refine aB.c (by first|exact OK|exact WD|exact LS) ?_|refine aC ?_|fail
    all_goals first|omega|exact⟨_,_,rfl,rfl⟩|exact⟨⟨_,_,rfl,rfl⟩,λh=>h rfl⟩
   .have Z:=aEt o ho (by omega) (by omega);have Y:=aGC x I o _ H hv h7 h0;rw[e1];refine fn0 Cd.s_DoStep_k λX=>?_
    repeat' first|simp -dsimp only[go_sem,cO,cS,J,L,O,U]|apply Br.mk<;>intro h<;>try simp -dsimp only[h]|refine aB.borG (B:=[]) (by first|exact Z) rfl ?_|refine aB.borG (B:=[.t 6 0,.t 15 0,.t 15 1]) (by first|exact Y) rfl ?_|refine aB.c (by first|exact OK|exact WD|exact LS) ?_|refine aC ?_|fail
    all_goals first|omega|exact⟨_,_,rfl,rfl⟩|exact⟨⟨_,_,rfl,rfl⟩,λh=>h rfl⟩
  .have e1:=aMr (o:=o) h7;by_cases he:o.totals.length=0
   .have Z:=aEu o ho (by omega) he;have Y:=aIH x I o _ H hv he h7 h0;rw[e1,Bv he];refine aJc (x:=.sl 1 (E cD (o.trays.set x.to.toNat (dkL x (tr o.trays x.a) (tr o.trays x.b))))) (y:=.v (.slice none 0 0)) ?_ rfl (λ_ _ _ h=>h) λ_ _ _=>aCn;refine fn0 Cd.s_DoStep_k λX=>?_
    repeat' first|simp -dsimp only[go_sem,cO,cS,J,L,O,U]|apply Br.mk<;>intro h<;>try simp -dsimp only[h]|refine aB.borG (B:=[]) (by first|exact Z) rfl ?_|refine aB.borG (B:=[.t 6 0,.t 15 0]) (by first|exact Y) rfl ?_|refine aB.c (by first|exact OK|exact WD|exact LS) ?_|refine aC ?_|fail
    all_goals first|omega|exact⟨_,_,rfl,rfl⟩|exact⟨⟨_,_,rfl,rfl⟩,λh=>h rfl⟩
   .have Z:=aEt o ho (by omega) (by omega);have Y:=aIF x I o _ H hv h7 h0;rw[e1];refine fn0 Cd.s_DoStep_k λX=>?_
    repeat' first|simp -dsimp only[go_sem,cO,cS,J,L,O,U]|apply Br.mk<;>intro h<;>try simp -dsimp only[h]|refine aB.borG (B:=[]) (by first|exact Z) rfl ?_|refine aB.borG (B:=[.t 6 0,.t 15 0,.t 15 1]) (by first|exact Y) rfl ?_|refine aB.c (by first|exact OK|exact WD|exact LS) ?_|refine aC ?_|fail
    all_goals first|omega|exact⟨_,_,rfl,rfl⟩|exact⟨⟨_,_,rfl,rfl⟩,λh=>h rfl⟩
 .rw[show dsO x o=⟨[],[]⟩ by simp[dsO,hd,h0],show dsK x o=stC x o by simp[dsK,hb,hd]];have e0:(stC x o != 0)=true:=by simp[h0]
  refine aJ5 ?_;by_cases he:o.totals.length=0
  .have Z:=aEu o ho (by omega) he;have Y:=aIG x I o _ H hv he h0;generalize stC x o=c at *
   refine fn0 Cd.s_DoStep_k λX=>?_
   repeat' first|simp -dsimp only[go_sem,cO,cS,J,L,O,U,e0]|apply Br.mk<;>intro h<;>try simp -dsimp only[h]|refine aB.borG (B:=[]) (by first|exact Z) rfl ?_|refine aB.borG (B:=[.t 6 0,.t 15 0]) (by first|exact Y) rfl ?_|refine aB.c (by first|exact OK|exact WD|exact LS) ?_|refine aC ?_|fail
   all_goals first|omega|exact⟨_,_,rfl,rfl⟩|exact⟨⟨_,_,rfl,rfl⟩,λh=>h rfl⟩
  .have Z:=aEt o ho (by omega) (by omega);have Y:=aIE x I o _ H hv h0;generalize stC x o=c at *
   refine fn0 Cd.s_DoStep_k λX=>?_
   repeat' first|simp -dsimp only[go_sem,cO,cS,J,L,O,U,e0]|apply Br.mk<;>intro h<;>try simp -dsimp only[h]|refine aB.borG (B:=[]) (by first|exact Z) rfl ?_|refine aB.borG (B:=[.t 6 0,.t 15 0,.t 15 1]) (by first|exact Y) rfl ?_|refine aB.c (by first|exact OK|exact WD|exact LS) ?_|refine aC ?_|fail
   all_goals first|omega|exact⟨_,_,rfl,rfl⟩|exact⟨⟨_,_,rfl,rfl⟩,λh=>h rfl⟩
end
end Go.Proofs.YtkgeiaideklmoaaGreat
