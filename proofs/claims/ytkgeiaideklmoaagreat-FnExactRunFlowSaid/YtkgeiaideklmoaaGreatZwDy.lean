/- The law FnExactDoStep: in parts. -/
import Derived.Test.YtkgeiaideklmoaaGreatZwMa
import Derived.Test.YtkgeiaideklmoaaGreatZwC
import Derived.Test.YtkgeiaideklmoaaGreatZwDs
import Derived.Test.YtkgeiaideklmoaaGreatZwDl
import Derived.Test.YtkgeiaideklmoaaGreatZwRe
import Derived.Test.YtkgeiaideklmoaaGreatVuV
import Derived.Test.YtkgeiaideklmoaaGreatZwD
import Derived.Test.YtkgeiaideklmoaaGreatVtR
import Derived.Test.YtkgeiaideklmoaaGreatZwVu
import Derived.Test.YtkgeiaideklmoaaGreatZwVq
import Derived.Test.YtkgeiaideklmoaaGreatZuO
set_option linter.all false
set_option maxHeartbeats 8000000
namespace Go.Proofs.YtkgeiaideklmoaaGreat
open Go.Vs
section
variable [Vs.Envs]
attribute [local irreducible] Vs.Fn
theorem aIQ {l:List (List Int)} (F:aZ l) (i:Nat):dL (l.take i)<=2 ^ 40:=by
 have I:=aEy (l:=l.take i) λc H=>F.2 c (CE H);have h2:(l.take i).length<=1048576:=by rw[BM];have:=F.1;omega
 have:=Bo 1048576 h2;omega
theorem aJs (l:List (List Int)) (k:Nat) (hk:aZ l) (hk0:k<=2 ^ 60):Fz F.qG [.sl 1 (E cC (mkD k l)),.v (.int .i64 k)] (.v (.int .i64 (k+dL l:Nat))):=by
 have hlr:(mkD k l).length=l.length:=y9 k l;have hl:=hk.1;refine fn0 Cd.l_heldCardS_k λX=>?_;simp -dsimp only[go_sem];refine aM.at dM (X:={i:Nat // i<=l.length}) (λi=>[(1,.v (.int .i64 (k+dL (l.take i.1):Nat))),(5,.v (.int .i64 i.1))]) (λi=>[]) (λi=>l.length-i.1) ⟨0,by omega⟩ ?_ ?_
 .simp[Vs.LeL,Vs.look,aA,aS,aJ,Vs.hset,aK,dL]
 .rintro⟨i,hi⟩;simp -dsimp only[go_sem,aH,hlr];refine Br.mk (λhc=>?_) λhc=>?_
  .have hlt:i<l.length:=by simpa using hc
   have hw:=aG hlt hl;have hgi:(E cC (mkD k l)).getD i []=[.sl 1 (E cI (mkR (mI (k+dL (l.take i))) l[i] l[i].length))]:=aMn k hlt;have hb:=aIQ hk i;have H:=aHi l[i] (k+dL (l.take i)) (hk.2 _ (Aa hlt)) (by omega);have hn:decide (((k+dL (l.take i)+l[i].length:Nat):Int)<0)=false:=AO (by omega);have hs:k+dL (l.take i)+l[i].length=k+dL (l.take (i+1)):=by rw[aY hlt,aBf];omega
   rw[hs] at H hn
   repeat' first|simp -dsimp only[go_sem,hw,hgi,hlr,hn,aH]|apply Br.mk<;>intro h<;>try simp -dsimp only[h]|refine aB.c (by first|exact H) ?_|refine aC ?_|fail
   all_goals(exact⟨⟨i+1,by omega⟩,by simp[Vs.LeL,Vs.look,aA,aS,aJ,Vs.hset,aK],by simp only;omega⟩)
  .have hge:i=l.length:=by
    have:¬i<l.length:=by simpa using hc
    omega
   subst hge;simp -dsimp only[go_sem];simp
end
section
variable [Vs.Envs]
attribute [local irreducible] Vs.Fn mkD dL bK aO bL bM l03 chB rk cd3 chI stp aP
theorem xR {S:Nat->Prop}{w:World}{k:Nat}{r:List (List AV)}{v:Value} (h:RC S w (.sl k r) v):∃s:Sl,v=slW s:=by
 cases h with
 |sl _ _ base cap=>exact⟨(base,_,cap),rfl⟩
def Gd (w:World) (d:List (List Int)) (s:Sl) (m:Vs.Mem):Prop:=Vs.Dk w (d.map (E cI)) (slW s) m
def Dt (m:Option Nat×Nat) (b:Nat):Prop:=m.1=some b
def Gt (w:World) (t:List Tot) (s:Sl) (m:Option Nat×Nat):Prop:=Vs.Own (λ_=>False) w m.1 m.2 2 (E cT t) (slW s)∧∀b,m.1=some b->b<w.heap.size
theorem aIK (w w':World) (d:List (List Int)) (s:Sl) (m:Vs.Mem) (h:Gd w d s m) (F:w.heap.size<=w'.heap.size) (H:∀b,m.D b->w'.heap[b]? = w.heap[b]?):Gd w' d s m:=h.same F H
theorem aFa (w w':World) (t:List Tot) (s:Sl) (m:Option Nat×Nat) (h:Gt w t s m) (H:w.heap.size<=w'.heap.size) (I:∀b,Dt m b->w'.heap[b]? = w.heap[b]?):Gt w' t s m:=
 ⟨h.1.mono (λ_ _ h=>h) I,λb F=>AZ (h.2 b F) H⟩
theorem aNg (t:List Tot):∀r,r∈E cT t->fJ r=true:=λr F=>by
 obtain⟨x,_,rfl⟩:=Bq.1 F;rfl
theorem aJR (l:List Tot) (H:l.length<=1048576):Vs.Fn Tryz.prog F.mO [] [.sl 2 (E cT l)] (.loc (.b 0) 0 l.length) [some (.arr 2 (E cT l) false)]:=
 aHP Tryz.mixed (g:=F.oV) (k:=2) (y:=24) (z:=[.v (.string ⟨#[]⟩),.v (.int .i64 0)]) Cd.l_toTotalS_k.o Cd.l_toTotalS_k.n Cd.l_toTotalS_k.r rfl (λ_=>rfl) (by decide) rfl rfl (λ_=>rfl) (λx I=>aHO x.1 x.2) H (by decide)
theorem aFk (l:List (List (List Int))) (J:wG l) {S:Nat->Prop}{w:World}{L:Value} (H:∀b,S b->b<w.heap.size) (I:Env S w) (h0:RC S w (.sl 1 (E cD l)) L):Calls Tryz.prog F.pE #[L] w (aLK Vs.Mem.D Gd l w):=
 aLs Cd.l_toCardSS_k.o Cd.l_toCardSS_k.n Cd.l_toCardSS_k.r (by kernel_rfl) (jZ Cd.l_toCardS_k.o) (l:=l) (c:=λd=>.sl 1 (E cC d)) (λ_=>rfl) J.1 (D:=Vs.Mem.D) (G:=Gd) ⟨none,[],λ_=>none,λ_=>0⟩ aIK (λw d s m h=>h.lt)
  (λd O S w v H Y=>(@aGI ⟨[]⟩ d (J.2 d O) S w v H (λp U=>by cases U) Y).mono λe w' ⟨u,I,hg,m,hdk,hn⟩=>by
    obtain⟨s,rfl⟩:=xR hdk.rd;exact⟨s,m,I,hg,hdk,hn⟩) H I h0
theorem aEz (l:List (List Tot)) (L:rE l) {S:Nat->Prop}{w:World}{O:Value} (H:∀b,S b->b<w.heap.size) (J:Env S w) (h0:RC S w (.sl 1 (E cTs l)) O):Calls Tryz.prog F.mZ #[O] w (aLK Dt Gt l w):=
 aLs Cd.l_toTotalSS_k.o Cd.l_toTotalSS_k.n Cd.l_toTotalSS_k.r (by kernel_rfl) (jZ Cd.l_toTotalS_k.o) (l:=l) (c:=λt=>.sl 2 (E cT t)) (λ_=>rfl) L.1 (D:=Dt) (G:=Gt) (none,0) aFa (λw d s m h=>h.2)
  (λt Z S w v H hv=>(@aEm Tryz.prog ⟨[]⟩ _ _ _ _ _ (@aJR ⟨[]⟩ t (L.2 t Z).1) (aH _).symm (aNg t) S w #[v] H (λp Y=>by cases Y) rfl (λj U=>by
    match j,U with
    |0,_=>exact hv)).mono λe w' ⟨u,x,c,J,hg,ho,hn⟩=>by
    obtain⟨s,rfl⟩:=xR ho.rc;exact⟨s,(x,c),J,hg,⟨ho,λb I=>(hn b I).2⟩,λb I=>(hn b I).1⟩) H J h0
theorem aL3 {S:Nat->Prop}{w:World}{ρ:Vs.Name->Option Nat}{κ:Vs.Name->Nat}{g:Vs.Name->Option Vs.Blk}{x y u:Value} (h:RV S w ρ κ g (.agg [.v x,.v y]) u):u=.agg #[x,y]:=by
 obtain⟨vs,rfl,H,F⟩:=jW h;rw[uJ H,show vs.getD 0 undef=x from bE (F 0 (by simp)),show vs.getD 1 undef=y from bE (F 1 (by simp))]
attribute [local go_sem] Bh Bz Int.reduceBEq Int.reduceBNe cC aH Af Ag Al Aq Ae Ai Ac Ak Ab Ah Am Au Ap Ao AX BH Vs.Name.t.injEq Aw A9 Vs.Name.b.injEq AJ Bn cD cTs cO in
set_option maxRecDepth 20000 in
theorem aFh (o:Off) (ho:dY o) {S:Nat->Prop}{w:World}{vs:Array Value} (hS:∀b,S b->b<w.heap.size) (he:Env S w) (h3:vs.size=1) (Z:∀j,j<1->RC S w (([.agg (cO o)]:List AV).getD j .junk) (vs.getD j undef)):Calls Tryz.prog F.gL vs w (λe0 w0=>∃tv sv,e0=.returned (.agg #[slW tv,slW sv])∧kY w w0∧aBa w w0 o (slW tv) (slW sv)):=by
 obtain⟨h1,h2,_⟩:=Cd.l_toOffice_k.o;obtain⟨h6,H,hc⟩:=AY.1 h2;have hz:(Tryz.f22.body.map (zB Tryz.f22.ntmps (aW Tryz.prog)))=some true:=by kernel_rfl
 rw[H] at hz;have hq:=bB Tryz.mixed;refine Vs.Pt.calls (dr:=aW Tryz.prog) (ac:=Cd.gL) h1 H hc (by simpa using hz) (args:=[.agg (cO o)]) (by rw[Cd.l_toOffice_k.n];exact Bc rfl) hS he h3 Z λC1 a I hf h7 hp=>?_;unfold Cd.gL
 refine hp.goS (τ:=⟨[(1,.ptr (.t 1 0) 0 0),(2,.ptr (.t 2 0) 0 0),(3,.ptr (.t 3 0) 0 0)],[(.t 1 0,.var [.sl 1 (E cD o.trays),.sl 1 (E cTs o.totals)] false),(.t 2 0,.var [.v (.slice none 0 0),.v (.slice none 0 0)] false),(.t 3 0,.var [.v (.slice none 0 0),.v (.slice none 0 0)] false)]⟩) hq I 2 _ (E:=λ_ _=>False) [(.t 2 0,.var [.v (.slice none 0 0),.v (.slice none 0 0)] false),(.t 3 0,.var [.v (.slice none 0 0),.v (.slice none 0 0)] false)] (λp hp=>by
     simp only[Ap,Ao,AX] at hp;rcases hp with rfl|rfl<;>exact⟨rfl,rfl,rfl⟩) [(1,.ro [.sl 1 (E cD o.trays),.sl 1 (E cTs o.totals)]),(2,.ptr (.t 2 0) 0 0),(3,.ptr (.t 3 0) 0 0)] (λp hp=>?_) (λC hC=>?_) (λi σ h=>h) (λC a w hl hg=>hg.no.elim) λI1 a1 w1 S1 p1 hs=>?_
 .simp only[Ap,Ao,AX] at hp;rcases hp with rfl|rfl|rfl
  .exact .inr ⟨rfl,_,rfl,λn hn=>by
     have:n=.t 1 0:=by simpa using hn
     subst this;rfl⟩
  .exact .inl ⟨rfl,rfl⟩
  .exact .inl ⟨rfl,rfl⟩
 .simp -dsimp only[go_sem,slW]
  repeat' first|simp -dsimp only[go_sem,slW]|refine RgK.mk rfl ?_|fail
  all_goals first|(simp[Vs.LeL,Vs.look,aA];done)|exact⟨by simp[Vs.LeL,Vs.look,aA],trivial⟩|omega|(and_intros<;>first|trivial|omega|(simp[Vs.LeL,Vs.look,aA];done))
 refine At.seq (At.rg (hs.rgN I 2 (τ:=⟨[(5,.sl 1 (E cD o.trays)),(1,.ro [.sl 1 (E cD o.trays),.sl 1 (E cTs o.totals)]),(2,.ptr (.t 2 0) 0 0),(3,.ptr (.t 3 0) 0 0)],[(.t 2 0,.var [.v (.slice none 0 0),.v (.slice none 0 0)] false),(.t 3 0,.var [.v (.slice none 0 0),.v (.slice none 0 0)] false)]⟩) ?_ λa2 w2 S2 p2 O=>O.rgc I (ts:=[5]) (ys:=[.sl 1 (E cD o.trays)]) (jZ Cd.l_toCardSS_k.o) rfl rfl λus hd hr=>?_))
 .simp -dsimp only[go_sem,slW]
  first|(simp[Vs.LeL,Vs.look,aA];done)|(and_intros<;>first|omega|rfl|(simp[Vs.LeL,Vs.look,aA];done))
 obtain⟨u0,rfl⟩:∃u0,us=#[u0]:=⟨_,Vs.us1 hd rfl⟩;refine(aFk o.trays ho.1 O.dom O.env (hr 0 Dj)).mono ?_;rintro e w3 ⟨v,x0,c0,V,M,rfl,hg,hOw,hVl,hGd,hdis,hout,hnew⟩;obtain⟨s,rfl⟩:=xR hOw.rc;refine⟨_,rfl,?_⟩;have ht:=(O.grow hg (D:=λb=>x0=some b∨∃i,i<V.length∧(M i).D b) hnew [(1,.ro [.sl 1 (E cD o.trays),.sl 1 (E cTs o.totals)]),(2,.ptr (.t 2 0) 0 0),(3,.ptr (.t 3 0) 0 0)] (fvC ⟨rfl,.inr rfl⟩ (fvC ⟨rfl,.inl rfl⟩ (fvC ⟨rfl,.inl rfl⟩ fvN)))).put (d:=6) (by rw[I,Cd.l_toOffice_k.n];omega) (slW s)
 letI I3:=Vs.keepE (λb=>S2 b∨x0=some b∨∃i,i<V.length∧(M i).D b) w3
 refine ht.rgN I 2 (τ:=⟨[(1,.ro [.sl 1 (E cD o.trays),.sl 1 (E cTs o.totals)]),(2,.ptr (.t 2 0) 0 0),(3,.ptr (.t 3 0) 0 0)],[(.t 2 0,.var [.v (.slice none 0 0),.v (.slice none 0 0)] false),(.t 3 0,.var [.v (slW s),.v (.slice none 0 0)] false)]⟩) ?_ λa4 w4 S4 p4 hv=>RgL.nil ?_
 .simp -dsimp only[go_sem,slW]
  first|(simp[Vs.LeL,Vs.look,aA];done)|(and_intros<;>first|omega|rfl|(simp[Vs.LeL,Vs.look,aA];done))
 refine At.seq (At.rg (hv.rgN I 2 (τ:=⟨[(9,.sl 1 (E cTs o.totals)),(2,.ptr (.t 2 0) 0 0),(3,.ptr (.t 3 0) 0 0)],[(.t 2 0,.var [.v (.slice none 0 0),.v (.slice none 0 0)] false),(.t 3 0,.var [.v (slW s),.v (.slice none 0 0)] false)]⟩) ?_ λa5 w5 S5 p5 J=>J.rgc I (ts:=[9]) (ys:=[.sl 1 (E cTs o.totals)]) (jZ Cd.l_toTotalSS_k.o) rfl rfl λus hd hr=>?_))
 .simp -dsimp only[go_sem,slW]
  first|(simp[Vs.LeL,Vs.look,aA];done)|(and_intros<;>first|omega|rfl|(simp[Vs.LeL,Vs.look,aA];done))
 obtain⟨u1,rfl⟩:∃u1,us=#[u1]:=⟨_,Vs.us1 hd rfl⟩;refine(aEz o.totals ho.2 J.dom J.env (hr 0 Dj)).mono ?_;rintro e w6 ⟨v,y0,d0,V2,M2,rfl,hg2,hOw2,hVl2,hGt,hdis2,hout2,hnew2⟩;obtain⟨s2,rfl⟩:=xR hOw2.rc;refine⟨_,rfl,?_⟩;have hw:=(J.grow hg2 (D:=λb=>y0=some b∨∃i,i<V2.length∧Dt (M2 i) b) hnew2 [(2,.ptr (.t 2 0) 0 0),(3,.ptr (.t 3 0) 0 0)] (fvC ⟨rfl,.inl rfl⟩ (fvC ⟨rfl,.inl rfl⟩ fvN))).put (d:=10) (by rw[I,Cd.l_toOffice_k.n];omega) (slW s2)
 letI I6:=Vs.keepE (λb=>S5 b∨y0=some b∨∃i,i<V2.length∧Dt (M2 i) b) w6
 refine hw.rgN I 2 (τ:=⟨[(2,.ptr (.t 2 0) 0 0),(3,.ptr (.t 3 0) 0 0)],[(.t 2 0,.var [.v (.slice none 0 0),.v (.slice none 0 0)] false),(.t 3 0,.var [.v (slW s),.v (slW s2)] false)]⟩) ?_ λa7 w7 S7 p7 hx=>RgL.nil ?_
 .simp -dsimp only[go_sem,slW]
  first|(simp[Vs.LeL,Vs.look,aA];done)|(and_intros<;>first|omega|rfl|(simp[Vs.LeL,Vs.look,aA];done))
 refine At.seq (At.rg (hx.rgN I 2 (τ:=⟨[(2,.ptr (.t 2 0) 0 0)],[(.t 2 0,.var [.v (slW s),.v (slW s2)] false)]⟩) ?_ λa8 w8 S8 p8 Y=>RgL.nil ?_))
 .simp -dsimp only[go_sem,slW]
  first|(simp[Vs.LeL,Vs.look,aA];done)|(and_intros<;>first|omega|rfl|(simp[Vs.LeL,Vs.look,aA];done))
 obtain ⟨hm,u,ρ,κ,hy,h4,_⟩:=Y.resX (fn:=Tryz.f22) (x:=.agg [.v (slW s),.v (slW s2)]) (by
   show dQ Tryz.prog _ _ [_]
   simp -dsimp only[go_sem,slW]
   try simp[dU])
 have hu:=aL3 h4;subst hu;have hh:Vs.Past (λb=>S2 b∨x0=some b∨∃i,i<V.length∧(M i).D b) w3 S5 w5:=p4.trans p5;have h5:Vs.Past S5 w5 (λb=>S5 b∨y0=some b∨∃i,i<V2.length∧Dt (M2 i) b) w6:=Vs.Past.grow hg2 J.dom;have U:Vs.Past (λb=>S5 b∨y0=some b∨∃i,i<V2.length∧Dt (M2 i) b) w6 S8 w8:=p7.trans p8;have pA:=(hh.trans h5).trans U;have h8:w.heap.size<=w2.heap.size:=hf ▸ O.size;have h9:w.heap.size<=w5.heap.size:=hf ▸ J.size;refine At.ret ⟨.inl rfl,hm,_,hy,s,s2,rfl,hf ▸ Y.out,⟨x0,c0,V,M,y0,d0,V2,λi=>(M2 i).1,λi=>(M2 i).2⟩,⟨hOw.mono (λ_ _ h=>h) λb H=>pA.old b (.inr (.inl H)),hVl.symm,λi hi=>?_,hdis,λi b hi H=>hout i b hi H,hOw2.mono (λ_ _ h=>h) λb H=>U.old b (.inr (.inl H)),⟨by simp[hVl2],λi hi=>?_,λi j b hi hj=>hdis2 i j b (by simpa using hi) (by simpa using hj)⟩,λi b hi H=>hout2 i b hi H,λb h1 h2=>?_,λb H=>?_⟩,λb H=>?_⟩
 .have L:i<o.trays.length:=by rw[←hVl];exact hi
  have:=(hGd i L).same (w':=w8) pA.size λb H=>pA.old b (.inr (.inr ⟨i,hi,H⟩))
  rwa [show o.trays.getD i []=o.trays[i] by simp[L]]
 .have ha:i<V2.length:=by simpa using hi
  have L:i<o.totals.length:=by rw[←hVl2];exact ha
  have:=(aFa _ w8 _ _ _ (hGt i L) U.size λb H=>U.old b (.inr (.inr ⟨i,ha,H⟩))).1;rw[show(o.totals.map (E cT)).getD i []=E cT o.totals[i] by simp[L],show(V2.map slW).getD i undef=slW (V2.getD i default) by simp[ha]];exact this
 .have hk:S5 b:=hh.sub b (.inr h1);have:=J.dom b hk;have:=(hnew2 b h2).1;omega
 .rcases H with H|H
  .exact Y.dom b (pA.sub b (.inr H))
  .exact Y.dom b (U.sub b (.inr H))
 .rcases H with H|H
  .have:=(hnew b H).1;omega
  .have:=(hnew2 b H).1;omega
end
section
variable [Vs.Envs]
attribute [local irreducible] Vs.Fn mkD dL mtx bK aO bL bM l03 chB rk cd3 chI stp aP
def z8 (t:List Tot):Nat:=2*t.length
def mkT (k:Nat) (t:List Tot):List Tot:=mkR (mT k) t t.length
def jR (o:Off):Nat:=dD dL o.trays+dD z8 o.totals
def mkO (k:Nat) (o:Off):Off:=⟨mkQ mkD dL k o.trays,mkQ mkT z8 (k+dD dL o.trays) o.totals⟩
theorem OfM.markT {w w':World}{o:Off}{Y U:Value}{m:OM} (h:OfM w o Y U m) {T:List (List (List Int))} (L:T.length=o.trays.length) (hs:w.heap.size<=w'.heap.size) (O:∀b,b<w.heap.size->(∀i,i<m.TV.length->¬(m.M i).D b)->w'.heap[b]? = w.heap[b]?) (Z:∀i (h:i<T.length),Gd w' T[i] (m.TV.getD i default) (m.M i)):OfM w' ⟨T,o.totals⟩ Y U m:=by
 have J:∀b,m.DS b->w'.heap[b]? = w.heap[b]?:=λb F=>O b (h.lt b (.inr F)) λi hi I=>h.dis b (.inr ⟨i,hi,I⟩) F;refine⟨h.tr.mono (λ_ _ h=>h) λb F=>O b (h.lt b (.inl (.inl F))) λi hi I=>h.tout i b hi I F,by show T.length=_;rw[L];exact h.tn,λi hi=>?_,h.tdis,h.tout,h.sr.mono (λ_ _ h=>h) λb F=>J b (.inl F),h.sl.mono (λ_ _ _ _ h=>h) λi b hi F=>J b (.inr ⟨i,by simpa using hi,F⟩),h.sout,h.dis,λb F=>AZ (h.lt b F) hs⟩;have H:i<T.length:=by rw[L,h.tn];exact hi
 show Vs.Dk w' ((T.getD i []).map (E cI)) _ _
 rw[show T.getD i []=T[i] by simp[H]];exact Z i H
theorem OfM.markS {w w':World}{o:Off}{tv sv:Value}{m:OM} (h:OfM w o tv sv m) {U:List (List Tot)} (O:U.length=o.totals.length) (Y:w.heap.size<=w'.heap.size) (Z:∀b,b<w.heap.size->(∀i,i<m.SV.length->m.ys i≠some b)->w'.heap[b]? = w.heap[b]?) (hd:∀i (h:i<U.length),Gt w' U[i] (m.SV.getD i default) (m.ys i,m.cs i)):OfM w' ⟨o.trays,U⟩ tv sv m:=by
 have L:∀b,m.DT b->w'.heap[b]? = w.heap[b]?:=λb F=>Z b (h.lt b (.inl F)) λi hi J=>h.dis b F (.inr ⟨i,hi,J⟩);refine⟨h.tr.mono (λ_ _ h=>h) λb F=>L b (.inl F),h.tn,λi hi=>(h.dk i hi).same Y λb F=>L b (.inr ⟨i,hi,F⟩),h.tdis,h.tout,h.sr.mono (λ_ _ h=>h) λb F=>Z b (h.lt b (.inr (.inl F))) λi hi J=>h.sout i b hi J F,⟨by simp[O,h.sn],λi hi=>?_,h.sl.dif⟩,h.sout,h.dis,λb F=>AZ (h.lt b F) Y⟩;have I:i<m.SV.length:=by simpa using hi
 have H:i<U.length:=by rw[O,h.sn];exact I
 have:=(hd i H).1;rw[show(U.map (E cT)).getD i []=E cT U[i] by simp[H],show(m.SV.map slW).getD i undef=slW (m.SV.getD i default) by simp[I]];exact this
theorem aDD (l:List (List (List Int))) (Z:wG l) {V:List Sl}{M:Nat->Vs.Mem} (H:l.length=V.length) {k0:Nat} (J:0<k0) (Y:k0+dD dL l<=900000000) {S:Nat->Prop}{w:World}{v:Value} (L:∀b,S b->b<w.heap.size) (he:Env S w) (I:∀i b,i<V.length->(M i).D b->¬S b) (h0:RC S w (.sl 1 (E sV V)) v)
  (U:∀i (h:i<l.length),Gd w l[i] (V.getD i default) (M i)) (O:∀i j b,i<V.length->j<V.length->(M i).D b->(M j).D b->i=j) :
  Calls Tryz.prog F.nR #[v,.int .i64 (k0:Nat)] w λe w'=>e=.returned (.int .i64 (k0+dD dL l:Nat))∧w.heap.size<=w'.heap.size∧(∀b,b<w.heap.size->(∀i,i<V.length->¬(M i).D b)->w'.heap[b]? = w.heap[b]?)∧(w'.os=w.os∧w'.output=w.output)∧∀i (h:i<(mkQ mkD dL k0 l).length),Gd w' (mkQ mkD dL k0 l)[i] (V.getD i default) (M i):=
 aKP Cd.l_markCardSS_k.o Cd.l_markCardSS_k.n Cd.l_markCardSS_k.r (by kernel_rfl) (jZ Cd.l_markCardS_k.o) (D:=Vs.Mem.D) (G:=Gd) (mk:=mkD) (tot:=dL) (K:=900000000) (by decide) aIK (λw d s m h=>h.lt)
  (λd O k S w s m J Y L I U=>@aEV ⟨[]⟩ k (by omega) S w (slW s) d m (Z.2 d O) L (λp hp=>by cases hp) I U) H (by rw[←H];exact Z.1) J Y L he I h0 U O
theorem aC0 (l:List (List Tot)) (hl:rE l) {V:List Sl}{M:Nat->Option Nat×Nat} (H:l.length=V.length) {k0:Nat} (I:0<k0) (Z:k0+dD z8 l<=900000000) {S:Nat->Prop}{w:World}{v:Value} (O:∀b,S b->b<w.heap.size) (he:Env S w) (J:∀i b,i<V.length->Dt (M i) b->¬S b) (h0:RC S w (.sl 1 (E sV V)) v)
  (L:∀i (h:i<l.length),Gt w l[i] (V.getD i default) (M i)) (hd:∀i j b,i<V.length->j<V.length->Dt (M i) b->Dt (M j) b->i=j) :
  Calls Tryz.prog F.lV #[v,.int .i64 (k0:Nat)] w λe w'=>e=.returned (.int .i64 (k0+dD z8 l:Nat))∧w.heap.size<=w'.heap.size∧(∀b,b<w.heap.size->(∀i,i<V.length->¬Dt (M i) b)->w'.heap[b]? = w.heap[b]?)∧(w'.os=w.os∧w'.output=w.output)∧∀i (h:i<(mkQ mkT z8 k0 l).length),Gt w' (mkQ mkT z8 k0 l)[i] (V.getD i default) (M i):=
 aKP Cd.l_markTotalSS_k.o Cd.l_markTotalSS_k.n Cd.l_markTotalSS_k.r (by kernel_rfl) (jZ Cd.l_markTotalS_k.o) (D:=Dt) (G:=Gt) (mk:=mkT) (tot:=z8) (K:=900000000) (by decide) aFa (λw d s m h=>h.2)
  (λt ht k S w s m I Z O J L=>by
    have h1:=L.1;have hF:=@aG2 ⟨[]⟩ t k (hl.2 t ht).1 I (by omega);have Y:(E cT t).length=t.length:=aH _;refine(@aBC ⟨[]⟩ Tryz.prog w S _ _ _ _ _ _ (by rw[Y];exact hF) (aNg _) m.1 m.2 (slW s) (h1.mono (λb U=>J b U) λ_ _=>rfl) O (λp hp=>by cases hp)).mono ?_;rintro e w' ⟨rfl,q1,q2,q3,q4,_⟩;exact⟨rfl,q1,q2,q3,q4.mono (λ_ _ h=>h) λ_ _=>rfl,λb U=>AZ (L.2 b U) q1⟩) H (by rw[←H];exact hl.1) I Z O he J h0 L hd
attribute [local go_sem] Int.reduceBEq Int.reduceBNe cC aH Af Ag Al Aq Ae Ai Ac Ak Ab Ah Am Au Ap Ao AX BH Vs.Name.t.injEq Aw A9 Vs.Name.b.injEq AJ Bn cD cTs cO in
set_option maxRecDepth 20000 in
theorem zW (o:Off) (ho:dY o) {tv sv:Sl}{m:OM}{k0:Nat} (h3:0<k0) (hk:k0+jR o<=900000000) {S:Nat->Prop}{w:World} (hS:∀b,S b->b<w.heap.size) (he:Env S w) (h5:∀b,m.D b->¬S b) (hu:OfM w o (slW tv) (slW sv) m) :
  Calls Tryz.prog F.gZ #[.agg #[slW tv,slW sv],.int .i64 (k0:Nat)] w λe w'=>e=.returned (.int .i64 (k0+jR o:Nat))∧w.heap.size<=w'.heap.size∧(∀b,b<w.heap.size->¬m.D b->w'.heap[b]? = w.heap[b]?)∧(w'.os=w.os∧w'.output=w.output)∧OfM w' (mkO k0 o) (slW tv) (slW sv) m:=by
 obtain⟨wO,rfl⟩:∃x,x=w:=⟨_,rfl⟩;obtain⟨h1,h2,_⟩:=Cd.l_markOffice_k.o;obtain⟨h9,J,hc⟩:=AY.1 h2;have hz:(Tryz.f26.body.map (zB Tryz.f26.ntmps (aW Tryz.prog)))=some true:=by kernel_rfl
 rw[J] at hz;have hr:=bB Tryz.mixed;refine vV (dr:=aW Tryz.prog) (ac:=Cd.gZ) h1 J hc (by simpa using hz) (args:=[.agg [.v (slW tv),.v (slW sv)],.v (.int .i64 (k0:Nat))]) (by rw[Cd.l_markOffice_k.n];exact Bc rfl) hS he rfl (λj hj=>?_) m.D λa I=>?_
 .match j,hj with
  |0,_=>exact aDX _ _
  |1,_=>exact .v _
 generalize ha:(⟨Tryz.f26.ntmps,wO,S,m.D,λ_=>none,λ_=>0,λ_=>none⟩:Ctx)=C0 at I;have h6:C0.nt=Tryz.f26.ntmps:=by rw[←ha]
 have hf:C0.w0=wO:=by rw[←ha]
 have hM:∀b,m.D b->C0.Mut b:=λb h=>by rw[←ha];exact h
 have hp:=I.later;have hs:=I.hid (D:=m.D) hu.lt h5 (λb _ n hn=>by simp[St.f,aA] at hn);have hg:=I.anew;generalize hx:C0.anew wO S _ _=C1 at hp hs hg;have hy:C1.w0=wO:=by rw[←hx];rfl
 have Y:C1.nt=Tryz.f26.ntmps:=hp.nt.trans h6;unfold Cd.gZ;refine At.step ⟨[(1,.v (.int .i64 (k0:Nat))),(2,.ptr (.t 2 0) 0 0)],[(.t 2 0,.var [.v (slW tv),.v (slW sv)] false)]⟩ hr hg Y ?_ λa w1 S1 ρ1 κ1 I=>?_
 .simp -dsimp only[go_sem,slW]
  try simp[Vs.LeL,Vs.look,aA]
 have h4:k0+dD dL o.trays<=900000000:=by unfold jR at hk;omega
 refine At.seq (At.mark (R:=λw'=>OfM w' ⟨mkQ mkD dL k0 o.trays,o.totals⟩ (slW tv) (slW sv) m) (τ:=⟨[(6,.v (slW tv)),(7,.v (.int .i64 (k0:Nat))),(2,.ptr (.t 2 0) 0 0)],[(.t 2 0,.var [.v (slW tv),.v (slW sv)] false)]⟩) (τ':=⟨[(1,.v (.int .i64 (k0+dD dL o.trays:Nat))),(2,.ptr (.t 2 0) 0 0)],[(.t 2 0,.var [.v (slW tv),.v (slW sv)] false)]⟩) I Y hp hs hM (pre:=[⟨some 5,.fieldAddr 0 (.tmp 2),none⟩,⟨some 6,.load false 1 (.tmp 5),none⟩,⟨some 7,.mv (.tmp 1),none⟩]) (post:=[⟨some 1,.mv (.tmp 8),none⟩]) (ts:=[6,7]) (vs:=[slW tv,.int .i64 (k0:Nat)]) (u:=.int .i64 (k0+dD dL o.trays:Nat)) (jZ Cd.l_markCardSS_k.o) (by rw[Cd.l_markOffice_k.n];omega) ?_ rfl (λi hi=>by match i,hi with|0,_=>rfl|1,_=>rfl) (λw S Z he hl hd L=>?_) ?_ λa w C S ρ κ I U hq hh hR=>?_)
 .simp -dsimp only[go_sem,slW]
  first|(simp[Vs.LeL,Vs.look,aA];done)|(and_intros<;>first|omega|rfl|(simp[Vs.LeL,Vs.look,aA];done))
 .rw[hy] at hd L;have H:=hu.same hd L
  refine (aDD o.trays ho.1 (M:=m.M) (S:=λb=>S b∨m.xt=some b) H.tn h3 h4 (λb J=>J.elim (Z b) λh=>H.lt b (.inl (.inl h))) (he.mono (λ_ h=>.inl h) λ_ _=>rfl) (λi b hi J h=>h.elim (hl b (.inl (.inr ⟨i,hi,J⟩))) (H.tout i b hi J)) (H.tr.rc.mono (λ_ h=>.inr h) λ_ _=>rfl) (λi h=>by
    have:=H.dk i (by rw[←H.tn];exact h)
    rwa [show o.trays.getD i []=o.trays[i] by simp[h]] at this) H.tdis).mono ?_
  rintro e w' ⟨rfl,q1,q2,q3,q4⟩;exact⟨rfl,q1,λb J hD=>q2 b J λi hi h=>hD (.inl (.inr ⟨i,hi,h⟩)),q3,H.markT (y8 _ _) q1 q2 q4⟩
 .simp -dsimp only[go_sem,slW]
  first|(simp[Vs.LeL,Vs.look,aA];done)|(and_intros<;>first|omega|rfl|(simp[Vs.LeL,Vs.look,aA];done))
 refine At.seq (At.mark (R:=λw'=>OfM w' (mkO k0 o) (slW tv) (slW sv) m) (τ:=⟨[(10,.v (slW sv)),(11,.v (.int .i64 (k0+dD dL o.trays:Nat)))],[]⟩) (τ':=⟨[(1,.v (.int .i64 (k0+jR o:Nat)))],[]⟩) I U hq hh hM (pre:=[⟨some 9,.fieldAddr 1 (.tmp 2),none⟩,⟨some 10,.load false 1 (.tmp 9),none⟩,⟨some 11,.mv (.tmp 1),none⟩]) (post:=[⟨some 1,.mv (.tmp 12),none⟩]) (ts:=[10,11]) (vs:=[slW sv,.int .i64 (k0+dD dL o.trays:Nat)]) (u:=.int .i64 (k0+jR o:Nat)) (jZ Cd.l_markTotalSS_k.o) (by rw[Cd.l_markOffice_k.n];omega) ?_ rfl (λi hi=>by match i,hi with|0,_=>rfl|1,_=>rfl) (λw S Z he hl hd L=>?_) ?_ λa w C S ρ κ I U hq hh hR=>?_)
 .simp -dsimp only[go_sem,slW]
  first|(simp[Vs.LeL,Vs.look,aA];done)|(and_intros<;>first|omega|rfl|(simp[Vs.LeL,Vs.look,aA];done))
 .have H:=hR.same hd L;have eT:k0+jR o=k0+dD dL o.trays+dD z8 o.totals:=by unfold jR;omega
  have hw:o.totals.length=m.SV.length:=H.sn;refine(aC0 o.totals ho.2 (V:=m.SV) (M:=λi=>(m.ys i,m.cs i)) (S:=λb=>S b∨m.xs=some b) hw (by omega) (by omega) (λb J=>J.elim (Z b) λh=>H.lt b (.inr (.inl h))) (he.mono (λ_ h=>.inl h) λ_ _=>rfl) (λi b hi J h=>h.elim (hl b (.inr (.inr ⟨i,hi,J⟩))) (H.sout i b hi J)) (H.sr.rc.mono (λ_ h=>.inr h) λ_ _=>rfl) (λi h=>?_) (λi j b hi hj=>H.sl.dif i j b (by simpa using hi) (by simpa using hj))).mono ?_
  .have hi:i<m.SV.length:=by rw[←hw];exact h
   have:=H.sl.row i (by simpa using hi);rw[show(o.totals.map (E cT)).getD i []=E cT o.totals[i] by simp[h],show(m.SV.map slW).getD i undef=slW (m.SV.getD i default) by simp[hi]] at this;exact⟨this,λb J=>H.lt b (.inr (.inr ⟨i,hi,J⟩))⟩
  .rintro e w' ⟨rfl,q1,q2,q3,q4⟩;exact⟨by rw[eT],q1,λb J hD=>q2 b J λi hi h=>hD (.inr (.inr ⟨i,hi,h⟩)),q3,H.markS (y8 _ _) q1 q2 q4⟩
 .simp -dsimp only[go_sem,slW]
  first|(simp[Vs.LeL,Vs.look,aA];done)|(and_intros<;>first|omega|rfl|(simp[Vs.LeL,Vs.look,aA];done))
 refine At.step ⟨[(4,.v (.int .i64 (k0+jR o:Nat)))],[]⟩ hr I U ?_ λa w7 S7 ρ7 κ7 O=>?_
 .simp -dsimp only[go_sem,slW];simp[Vs.LeL,Vs.look,aA]
 refine At.ret ⟨.inl rfl,O.defers,?_⟩
 obtain ⟨x,v,h7,h8,hv⟩:=mE O (fn:=Tryz.f26) (K:=λx=>x=.v (.int .i64 (k0+jR o:Nat))) (by
   show dQ Tryz.prog _ _ [_]
   simp[dQ,qX,Vs.look,dU])
 subst h7;have hm:=O.back hq;refine⟨v,hv,by rw[bE h8],by have:=hm.size;rw[hf] at this;exact this,λb J ht=>?_,by have:=hm.out;rw[hf] at this;exact this,hR.same O.size (hh.same O).1⟩;have:=hm.old b (by rw[hf];exact J) (by rw[←ha];exact ht);rw[hf] at this;exact this
end
section
variable [Vs.Envs]
attribute [local irreducible] Vs.Fn mkD dL mtx bK aO bL bM l03 chB rk cd3 chI stp aP
theorem aCx {l:List Int}{n:Int} (F:l.length<2 ^ 63) (h0:0<=n) (H:n<=1048576) (h:0<=szI l n):szI l n<=n:=(aGM F h0 H h).1
def aLC (l:List (List Int)):Prop:=l.length<2 ^ 63∧∀c,c∈l->c.length<2 ^ 63
def bigD (l:List (List (List Int))):Prop:=l.length<2 ^ 63∧∀c,c∈l->aLC c
def bigT (l:List Tot):Prop:=l.length<2 ^ 63∧∀c,c∈l->c.1.size<2 ^ 63
def aNi (l:List (List Tot)):Prop:=l.length<2 ^ 63∧∀c,c∈l->bigT c
def aLB (o:Off):Prop:=bigD o.trays∧aNi o.totals
def aAa (l:List (List Int)) (n:Int):Int:=szL szI l n
def aDy (l:List Tot) (n:Int):Int:=szL aDM l n
theorem yQ {l:List (List Int)} (F:aLC l) (n:Int) (h0:0<=n) (H:n<=1048576) (h:0<=aAa l n):aAa l n<=n:=
 (sG (λx I _ a b c=>aCx (F.2 x I) a b c) F.1 h0 H h).1
theorem aBg {l:List Tot} (F:bigT l) (n:Int) (h0:0<=n) (H:n<=1048576) (h:0<=aDy l n):aDy l n<=n:=
 (sG (λx I _ a b c=>xG (F.2 x I) a b c) F.1 h0 H h).1
theorem aGN {l:List (List Int)} (F:aLC l) {n:Int} (h0:0<=n) (J:n<=1048576) (h:0<=aAa l n):aZ l:=by
 refine⟨?_,λc I=>?_⟩
 .have:=(sG (λx H _ a b c=>aCx (F.2 x H) a b c) F.1 h0 J h).2;omega
 .obtain⟨m,L,h2,O⟩:=aEC (λx H _ a b c=>aCx (F.2 x H) a b c) F.1 h0 J h c I;have:=(aGM (F.2 c I) L h2 O).2;omega
theorem aGJ {l:List Tot} (F:bigT l) {n:Int} (h0:0<=n) (J:n<=1048576) (h:0<=aDy l n):aEI l:=by
 refine⟨?_,λc I=>?_⟩
 .have:=(sG (λx H _ a b c=>xG (F.2 x H) a b c) F.1 h0 J h).2;omega
 .obtain⟨m,L,h2,O⟩:=aEC (λx H _ a b c=>xG (F.2 x H) a b c) F.1 h0 J h c I;have:=(aEB (F.2 c I) L h2 O).2;omega
def lL (o:Off) (n:Int):Int:=if szL aAa o.trays n<0 then -1 else if szL aDy o.totals (szL aAa o.trays n)<0 then -1 else szL aDy o.totals (szL aAa o.trays n)
theorem aGL {o:Off} (F:aLB o) {n:Int} (h0:0<=n) (U:n<=1048576) (h:0<=lL o n):lL o n<=n∧dY o:=by
 unfold lL at h⊢;split at h
 .omega
 .rename_i Y;rw[AB Y];split at h
  .omega
  .rename_i h2;rw[AB h2];obtain⟨Z,a2⟩:=sG (λx H n a b c=>yQ (F.1.2 x H) n a b c) F.1.1 h0 U (by omega:0<=szL aAa o.trays n);obtain⟨b1,b2⟩:=sG (λx H n a b c=>aBg (F.2.2 x H) n a b c) F.2.1 (by omega) (by omega) h;refine⟨by omega,⟨by omega,λd I=>?_⟩,⟨by omega,λd I=>?_⟩⟩
   .obtain⟨m,J,L,O⟩:=aEC (λx H n a b c=>yQ (F.1.2 x H) n a b c) F.1.1 h0 U (by omega:0<=szL aAa o.trays n) d I;exact aGN (F.1.2 d I) J L O
   .obtain⟨m,J,L,O⟩:=aEC (λx H n a b c=>aBg (F.2.2 x H) n a b c) F.2.1 (by omega) (by omega) h d I;exact aGJ (F.2.2 d I) J L O
theorem aJ3 (l:List (List (List Int))) (n:Int) (H:bigD l) (J:0<=n∧n<=1048576):Fz F.sW [.sl 1 (E cD l),.v (.int .i64 n)] (.v (.int .i64 (szL aAa l n))):=
 aJ0 Tryz.mixed (d:=λx=>.sl 1 (E cC x)) (g:=F.rX) Cd.l_szCardSS_k.o Cd.l_szCardSS_k.n Cd.l_szCardSS_k.r rfl aAa (λ_=>rfl) (λx I n h0 J=>aLW x n (H.2 x I).2 (H.2 x I).1 ⟨h0,J⟩) (λx I n a b c=>yQ (H.2 x I) n a b c) n H.1 J
theorem aIS (l:List (List Tot)) (n:Int) (H:aNi l) (J:0<=n∧n<=1048576):Fz F.qF [.sl 1 (E cTs l),.v (.int .i64 n)] (.v (.int .i64 (szL aDy l n))):=
 aJ0 Tryz.mixed (d:=λx=>.sl 2 (E cT x)) (g:=F.pF) Cd.l_szTotalSS_k.o Cd.l_szTotalSS_k.n Cd.l_szTotalSS_k.r rfl aDy (λ_=>rfl) (λx I n h0 J=>aJY x n (H.2 x I).2 (H.2 x I).1 ⟨h0,J⟩) (λx I n a b c=>aBg (H.2 x I) n a b c) n H.1 J
theorem aJW (l:List (List (List Int))) (H:wG l):Fz F.pE [.sl 1 (E cD l)] (.sl 1 (E cD l)):=
 aJU Tryz.mixed (d:=λx=>.sl 1 (E cC x)) (y:=24) (z:=[.v (.slice none 0 0)]) (g:=F.jL) Cd.l_toCardSS_k.o Cd.l_toCardSS_k.n Cd.l_toCardSS_k.r rfl rfl rfl (λ_=>⟨_,_,rfl⟩) (λx I=>aLR x (H.2 x I).2 (H.2 x I).1) H.1 (by omega)
theorem aIR (l:List (List Tot)) (H:rE l):Fz F.mZ [.sl 1 (E cTs l)] (.sl 1 (E cTs l)):=
 aJU Tryz.mixed (d:=λx=>.sl 2 (E cT x)) (y:=24) (z:=[.v (.slice none 0 0)]) (g:=F.mO) Cd.l_toTotalSS_k.o Cd.l_toTotalSS_k.n Cd.l_toTotalSS_k.r rfl rfl rfl (λ_=>⟨_,_,rfl⟩) (λx I=>aJQ x (H.2 x I).1) H.1 (by omega)
theorem aLj (l:List (List (List Int))) (H:wG l):Fz F.tC [.sl 1 (E cD l),.sl 1 (E cD l)] (.v (.bool true)):=
 aLh Tryz.mixed (d:=λx=>.sl 1 (E cC x)) (g:=F.r9) Cd.l_eqCardSS_k.o Cd.l_eqCardSS_k.n Cd.l_eqCardSS_k.r rfl (λ_=>rfl) (λx I=>aMK x (H.2 x I).2 (H.2 x I).1) H.1
theorem aJw (l:List (List Tot)) (H:rE l):Fz F.qH [.sl 1 (E cTs l),.sl 1 (E cTs l)] (.v (.bool true)):=
 aLh Tryz.mixed (d:=λx=>.sl 2 (E cT x)) (g:=F.pG) Cd.l_eqTotalSS_k.o Cd.l_eqTotalSS_k.n Cd.l_eqTotalSS_k.r rfl (λ_=>rfl) (λx I=>aLg x (H.2 x I).1) H.1
theorem aCw (o:Off) (n:Int) (H:aLB o) (I:0<=n∧n<=1048576):Fz F.sS [.agg (cO o),.v (.int .i64 n)] (.v (.int .i64 (lL o n))):=by
 refine fn0 Cd.l_szOffice_k λX=>?_;simp -dsimp only[go_sem,cO];refine aB.flat (aJ3 _ _ H.1 I) rfl ?_;simp -dsimp only[go_sem];refine Br.mk (λh=>?_) λh=>?_
 .simp -dsimp only[go_sem];simp only[Bb] at h;simp[lL,h]
 .simp only[BC] at h;have L:=(sG (λx J n a b c=>yQ (H.1.2 x J) n a b c) H.1.1 I.1 I.2 (by omega:0<=szL aAa o.trays n)).1;simp -dsimp only[go_sem];refine aB.flat (aIS _ _ H.2 ⟨by omega,by omega⟩) rfl ?_;simp -dsimp only[go_sem];refine Br.mk (λh2=>?_) λh2=>?_
  .simp -dsimp only[go_sem];simp only[Bb] at h2;simp[lL,h,h2]
  .simp -dsimp only[go_sem];simp only[BC] at h2;simp[lL,h,h2]
theorem aCu (o:Off) (H:dY o):Fz F.gL [.agg (cO o)] (.agg (cO o)):=by
 refine fn0 Cd.l_toOffice_k λX=>?_
 repeat' first|simp -dsimp only[go_sem,cO]|apply Br.mk<;>intro h<;>try simp -dsimp only[h]|refine aB.c (by first|exact aJW _ H.1|exact aIR _ H.2) ?_|refine aC ?_|fail
 all_goals(exact⟨_,_,rfl,rfl⟩)
theorem aA3 (o:Off) (H:dY o):Fz F.kF [.agg (cO o),.agg (cO o)] (.v (.bool true)):=by
 refine fn0 Cd.l_eqOffice_k λX=>?_
 repeat' first|simp -dsimp only[go_sem,cO]|apply Br.mk<;>intro h<;>try simp -dsimp only[h]|refine aB.c (by first|exact aLj _ H.1|exact aJw _ H.2) ?_|refine aC ?_|fail
 all_goals(simp_all)
def gTot (p:S63×I64):Tot:=(p.1.1,p.2.1)
abbrev ACard:={l:List I64 // l.length<2 ^ 63}
abbrev aFe:={l:List ACard // l.length<2 ^ 63}
abbrev aFd:={l:List aFe // l.length<2 ^ 63}
abbrev aM2:={l:List (S63×I64) // l.length<2 ^ 63}
abbrev aDw:={l:List aM2 // l.length<2 ^ 63}
def aC9 (d:aFe):List (List Int):=d.1.map λc=>c.1.map λn=>n.1
def gOff (p:aFd×aDw):Off:=⟨p.1.1.map aC9,p.2.1.map λt=>t.1.map gTot⟩
theorem aHn (d:aFe):aLC (aC9 d):=by
 refine⟨by simpa[aC9] using d.2,λc F=>?_⟩;obtain⟨x,_,rfl⟩:=Bq.1 F;simpa using x.2
theorem gOff_big (p:aFd×aDw):aLB (gOff p):=by
 refine⟨⟨by simpa[gOff] using p.1.2,λd F=>?_⟩,⟨by simpa[gOff] using p.2.2,λd F=>?_⟩⟩
 .obtain⟨x,_,rfl⟩:=Bq.1 F;exact aHn x
 .obtain⟨x,_,rfl⟩:=Bq.1 F;refine⟨by simpa using x.2,λt H=>?_⟩;obtain⟨y,_,rfl⟩:=Bq.1 H;exact y.1.2
theorem aHm (d:aFe):E cC (aC9 d)=d.1.map aEf:=by
 simp only[aC9,E_map];congr 1
 funext c
 simp only[cC,E_map];rfl
theorem gOff_enc (p:aFd×aDw):cO (gOff p)=aIt p:=by
 simp only[cO,gOff,E_map,cD,cTs,aHm];rfl
theorem aFp {α:Type}{f:α->Int->Int}{g:α->Nat}:∀{l:List α}{n:Int},(∀x,x∈l->∀n,0<=n->n<=1048576->0<=f x n->f x n+g x<=n)->0<=n->n<=1048576->0<=wC f l n->wC f l n+dD g l<=n
 | [],n,_,_,_,_=>by simp[wC,dD]
 | x::r,n,hf,h0,hn,h=>by
  simp only[wC] at h⊢;split
  .rename_i F;rw[AP F] at h;omega
  .rename_i F;rw[AB F] at h;have h2:=hf x (by simp) n h0 hn (by omega);have:=aFp (g:=g) (λy H=>hf y (by simp[H])) (by omega) (by omega) h;simp only[dD];omega
theorem aB6 {α:Type}{f:α->Int->Int}{g:α->Nat}{l:List α}{n:Int} (H:∀x,x∈l->∀n,0<=n->n<=1048576->0<=f x n->f x n+g x<=n) (I:l.length<2 ^ 63) (h0:0<=n) (J:n<=1048576) (h:0<=szL f l n):szL f l n+l.length+dD g l<=n:=by
 unfold szL at h⊢;split
 .rename_i F;rw[AP F] at h;omega
 .rename_i F;rw[AB F] at h;rw[aR (by omega) (by omega)] at h F⊢;have:=aFp (g:=g) H (by omega) (by omega) h;omega
theorem aIW {α:Type} (l:List α):dD (λ_=>0) l=0:=by
 induction l with
 |nil=>rfl
 |cons x r ih=>simp[dD,ih]
theorem aFg (d:List (List Int)):dL d=dD List.length d:=by
 induction d with
 |nil=>simp[dD,dL]
 |cons x r ih=>simp[dD,dL,ih]
theorem aFf (l:List (List Tot)):dD z8 l=2*dD List.length l:=by
 induction l with
 |nil=>rfl
 |cons x r ih=>simp only[dD,z8,ih];omega
theorem aLV {l:List Int}{n:Int} (H:l.length<2 ^ 63) (h0:0<=n) (I:n<=1048576) (h:0<=szI l n):szI l n+l.length<=n:=by
 unfold szI at h⊢;split
 .rename_i F;rw[AP F] at h;omega
 .rename_i F;rw[AB F] at h;rw[aR (by omega) (by omega)] at h F⊢;omega
theorem aJ2 {d:List (List Int)} (F:aLC d) (n:Int) (h0:0<=n) (H:n<=1048576) (h:0<=aAa d n):aAa d n+dL d<=n:=by
 rw[aFg];have:=aB6 (f:=szI) (g:=List.length) (λx I n a b c=>aLV (F.2 x I) a b c) F.1 h0 H h;unfold aAa;omega
theorem aJZ {t:List Tot} (F:bigT t) (n:Int) (h0:0<=n) (H:n<=1048576) (h:0<=aDy t n):aDy t n+t.length<=n:=by
 have:=aB6 (f:=aDM) (g:=λ_=>0) (λx I n a b c=>by have:=xG (F.2 x I) a b c;simpa using this) F.1 h0 H h;rw[aIW] at this;unfold aDy;omega
theorem aIT {o:Off} (F:aLB o) {n:Int} (h0:0<=n) (I:n<=1048576) (h:0<=lL o n):1+jR o<=900000000:=by
 unfold lL at h;split at h
 .omega
 .rename_i J;split at h
  .omega
  .rename_i h2;have a:=aB6 (g:=dL) (λx H n a b c=>aJ2 (F.1.2 x H) n a b c) F.1.1 h0 I (by omega:0<=szL aAa o.trays n);have b:=aB6 (g:=List.length) (λx H n a b c=>aJZ (F.2.2 x H) n a b c) F.2.1 (by omega) (by omega) h;have c:=aFf o.totals;unfold jR;omega
theorem aB8 {α:Type}{g:α->Nat}{B:Nat}:∀{l:List α},(∀x,x∈l->g x<=B)->dD g l<=l.length*B
 | [],_=>by simp[dD]
 | x::r,h=>by
  have H:=h x Dp;have h2:=aB8 (l:=r) λc F=>h c (C9 _ F);simp only[dD,Ab,CZ];omega
theorem aMi {w:Nat}{o:Off} (h:okO w o):1+jR o<=900000000:=by
 have I:=eG h;obtain⟨hw,J,O,U,_⟩:=h
 have a:=aB8 (g:=dL) (B:=20971520) (l:=o.trays) λd F=>by
  rw[aFg];have Z:=aB8 (g:=List.length) (B:=20) (l:=d) λc L=>by have:=(O d F).2 c L;omega
  have h2:=(I.1.2 d F).1;omega
 have b:=aB8 (g:=List.length) (B:=1048576) (l:=o.totals) λt H=>(I.2.2 t H).1;have c:=aFf o.totals;have Y:=Bl b (Bo 1048576 U);rw[J] at a;unfold jR;omega
theorem aHj (l:List (List (List Int))) (I:wG l) {k0:Nat} (H:0<k0) (L:k0+dD dL l<=900000000):Fz F.nU [.sl 1 (E cD (mkQ mkD dL k0 l)),.v (.int .i64 (k0:Nat))] (.v (.int .i64 (k0+dD dL l:Nat))):=
 aK5 Cd.l_heldCardSS_k.o Cd.l_heldCardSS_k.n Cd.l_heldCardSS_k.r (c:=λd=>E cC d) (kk:=1) (K:=900000000) (by decide) (λd J k O h2=>aJs d k (I.2 d J) (by omega)) I.1 H L
theorem aF8 (l:List (List Tot)) (I:rE l) {k0:Nat} (H:0<k0) (L:k0+dD z8 l<=900000000):Fz F.lX [.sl 1 (E cTs (mkQ mkT z8 k0 l)),.v (.int .i64 (k0:Nat))] (.v (.int .i64 (k0+dD z8 l:Nat))):=
 aK5 Cd.l_heldTotalSS_k.o Cd.l_heldTotalSS_k.n Cd.l_heldTotalSS_k.r (c:=λt=>E cT t) (kk:=2) (K:=900000000) (by decide) (λt O k J h2=>aHg t k (I.2 t O).1 J (by omega)) I.1 H L
theorem aHh (o:Off) (J:dY o) {k0:Nat} (H:0<k0) (Z:k0+jR o<=900000000):Fz F.lG [.agg (cO (mkO k0 o)),.v (.int .i64 (k0:Nat))] (.v (.int .i64 (k0+jR o:Nat))):=by
 have U:k0+jR o=k0+dD dL o.trays+dD z8 o.totals:=by unfold jR;omega
 have L:=aHj o.trays J.1 H (by omega);have O:=aF8 o.totals J.2 (k0:=k0+dD dL o.trays) (by omega) (by omega);have Y:decide (((k0+dD dL o.trays:Nat):Int)<0)=false:=AO (by omega);have I:decide (((k0+dD dL o.trays+dD z8 o.totals:Nat):Int)<0)=false:=AO (by omega);rw[U];refine fn0 Cd.l_heldOffice_k λX=>?_
 repeat' first|simp -dsimp only[go_sem,cO,mkO,Y,I]|apply Br.mk<;>intro h<;>try simp -dsimp only[h]|refine aB.c (by first|exact L|exact O) ?_|refine aC ?_|fail
 all_goals simp_all
end
section
variable [Vs.Envs]
attribute [local irreducible] Vs.Fn bA mgC iM mtC iP oC mat tX dkC dkL jS jX lM wO dsC stO lC bK aO bL bM l03 chB rk cd3 chI stp aP
end
section
variable [Vs.Envs]
attribute [local irreducible] Vs.Fn lM wO stC dsC stO lC bK aO bL bM l03 chB rk cd3 chI stp aP
theorem aIa {o:Off} (h:lC o=true):o.trays.length=6:=by
 simp only[lC,Av,BN] at h;omega
theorem aKE {o:Off} (h:lC o=true) {i:Nat} (hi:i<6):uL o i=true:=by
 have H:=aIa h;simp only[lC,Av] at h;have F:=h.1;rw[aI7] at F;exact F i (by omega)
theorem aG0 {o:Off} (h:lC o=true) (U:dY o):okO (wO o.trays) o:=by
 have L:=aIa h
 have hin:∀d,d∈o.trays->okD (wO o.trays) d:=by
  intro d F;obtain⟨i,hi,rfl⟩:=Cb.1 F;have H:=aKE h (i:=i) (by omega);rw[uL,getD_lt hi] at H;simp only[Av,Cs,BN] at H;refine⟨H.1,λc I=>?_⟩;have h0:o.trays[i].length≠0:=by intro e;rw[Bt e] at I;cases I
  rw[←H.2.resolve_left h0];have F:=H.1;simp only[bF,Av,Az,Bb] at F;exact(F.1 c I).2
 have Y:1<=wO o.trays∧wO o.trays<=20:=by
  have J:∀l:List (List (List Int)),(∀d,d∈l->bF d=true)->1<=wO l∧wO l<=20:=by
   intro l
   induction l with
   |nil=>intro _;simp[wO]
   | cons d r ih =>
    intro h;rw[wO];split
    .exact ih λe O=>h e (by simp[O])
    .rename_i h0;have F:=h d (by simp);have H:0<d.length:=by omega
     simp only[bF,Av,Az,Bb] at F;have I:=(F.1 d[0] (Aa H)).1;simp only[iL,inB,Av,Az,Bb] at I;rw[getD_lt H];omega
  exact J _ λd F=>(hin d F).1
 simp only[lC,Av,Bb] at h;exact⟨Y,L,hin,by omega,U.2.2⟩
theorem aNF {S:Nat->Prop}{w:World}{x y F H:AV}{v:Value} (h:RC S w (.agg [x,y]) v) (I:∀u,RC S w x u->RC S w F u) (h2:∀u,RC S w y u->RC S w H u):RC S w (.agg [F,H]) v:=by
 cases h with
 | agg _ us hl hr =>
  refine .agg _ us hl λj J=>?_
  match j,J with
  |0,_=>exact I _ (hr 0 (by simp))
  |1,_=>exact h2 _ (hr 1 (by simp))
theorem xS {S:Nat->Prop}{w:World}{k:Nat}{v:Value} (h:RC S w (.v (.slice none 0 0)) v):RC S w (.sl k []) v:=by
 rw[bE (ρ:=λ_=>none) (κ:=λ_=>0) (h:=λ_=>none) (.clo h)];exact .sl k [] none 0 0 0 (λ_=>undef) (by simp) (by simp) (by simp) (by simp) (by simp) ⟨by simp,by decide⟩
end
section
variable [Vs.Envs]
attribute [local irreducible] Vs.Fn lM wO stC bK aO bL bM l03 chB rk cd3 chI stp aP
def roT (o:Off):AV:=if o.totals.length=0 then .v (.slice none 0 0) else .sl 1 (E cTs o.totals)
def roV (o:Off):List AV:=[.sl 1 (E cD o.trays),roT o]
def gT (o:Off):AV:=if o.totals.length=0 then .v (.slice none 0 0) else .loc (.t 9 1) 0 o.totals.length
def gHT (o:Off):List (Vs.Name×Blk):=if o.totals.length=0 then[] else[(.t 9 1,.arr 1 (E cTs o.totals) false)]
theorem gT_e {o:Off} (h:o.totals.length=0):gT o=.v (.slice none 0 0):=AP h
theorem aLa {o:Off} (h:o.totals.length≠0):gT o=.loc (.t 9 1) 0 o.totals.length:=AB h
theorem gH_e {o:Off} (h:o.totals.length=0):gHT o=[]:=AP h
theorem aLb {o:Off} (h:o.totals.length≠0):gHT o=[(.t 9 1,.arr 1 (E cTs o.totals) false)]:=AB h
theorem aH3 {o:Off} (h:o.totals.length=0):roT o=.v (.slice none 0 0):=AP h
theorem aH2 {o:Off} (h:o.totals.length≠0):roT o=.sl 1 (E cTs o.totals):=AB h
theorem roE {o:Off} (h:o.totals.length=0) {S:Nat->Prop}{w:World}{v:Value}{ρ:Vs.Name->Option Nat}{κ:Vs.Name->Nat}{F:Vs.Name->Option Blk} (H:RV S w ρ κ F (.ro [.sl 1 (E cD o.trays),.v (.slice none 0 0)]) v):RV S w ρ κ F (.ro (cO o)) v:=by
 unfold cO;rw[Bt h];exact aNy H
theorem aJi (o:Off) (I:dY o) (h:o.totals.length=0):Fz F.mG [.ro [.sl 1 (E cD o.trays),.v (.slice none 0 0)]] (.v (.int .i64 (wO o.trays))):=by
 refine aME (args':=[.ro (cO o)]) rfl (λS w j v H ρ κ L J=>?_) (xZ o I)
 match j,H with
 |0,_=>exact roE h J
theorem aJ9 (x:Stp) (o:Off):(stO x o).trays.length=o.trays.length:=by unfold stO;split<;>simp
theorem aHV {x:Stp}{o:Off} (F:x.kind≠7):(stO x o).totals=o.totals∧(stO x o).trays=o.trays.set x.to.toNat (dkL x (tr o.trays x.a) (tr o.trays x.b)):=by rw[aM6 F];exact⟨rfl,rfl⟩
theorem aFs {x:Stp}{o:Off} (F:x.kind=7):(stO x o).totals=o.totals++[jX x.f0 x.f1 x.s0 x.s1 (tr o.trays x.a)]∧(stO x o).trays=o.trays:=by rw[aJ7 F];exact⟨rfl,rfl⟩
attribute [local go_sem] Int.reduceBEq Int.reduceBNe cC cFd aH Af Ag Al Aq Ae Ai Ac Ak Ab Ah Am Au Ap Ao AX BH Vs.Name.t.injEq Aw A9 Vs.Name.b.injEq AJ Bn in
theorem aNR (o:Off) (w:Nat) (ho:okO w o) (fl:List Stp) (hz:∀x,x∈fl->x.text.size<=1048576) (hl:fl.length<=1048576):Fz F.xL [.ro (cO o),.sl 9 (E cS fl)] (.tup [.agg (roV (run o fl).1),.v (.int .i64 ((run o fl).2:Nat))]):=by
 have hI0:=aDS o fl;generalize hR:run o fl=R;by_cases he:o.totals.length=0
 focus
  have OW:=aMu o (eG ho) (by rw[ho.2.1];omega) he;refine fn0 Cd.s_l15Run_k λX=>?_
  repeat' first|simp -dsimp only[go_sem,cO,cS]|apply Br.mk<;>intro h<;>try simp -dsimp only[h]|refine aB.own (by first|exact OW) rfl ?_|refine aC ?_|fail
  refine aM.atR dM (X:={p:Nat×Off // p.1<=fl.length∧okO w p.2∧aCC o fl p.1 p.2∧(o.totals.length≠0->p.2.totals.length≠0)}) (λp=>[(7,.v (.int .i64 (p.1.1:Nat)))]) (λp=>(.t 6 0,.var [.loc (.t 9 0) 0 p.1.2.trays.length,gT p.1.2] false)::(.t 9 0,.arr 1 (E cD p.1.2.trays) false)::gHT p.1.2) (λp=>fl.length-p.1.1) ⟨(0,o),by simp,ho,hI0,λh=>h⟩ ?_ ?_
  .simp[Vs.LeL,Vs.look,aA,aS,aJ,Vs.hset,aK,gT_e he,gH_e he]
 rotate_left
 focus
  have OW:=aMt o (eG ho) (by rw[ho.2.1];omega) (by omega);refine fn0 Cd.s_l15Run_k λX=>?_
  repeat' first|simp -dsimp only[go_sem,cO,cS]|apply Br.mk<;>intro h<;>try simp -dsimp only[h]|refine aB.own (by first|exact OW) rfl ?_|refine aC ?_|fail
  refine aM.atR dM (X:={p:Nat×Off // p.1<=fl.length∧okO w p.2∧aCC o fl p.1 p.2∧(o.totals.length≠0->p.2.totals.length≠0)}) (λp=>[(7,.v (.int .i64 (p.1.1:Nat)))]) (λp=>(.t 6 0,.var [.loc (.t 9 0) 0 p.1.2.trays.length,gT p.1.2] false)::(.t 9 0,.arr 1 (E cD p.1.2.trays) false)::gHT p.1.2) (λp=>fl.length-p.1.1) ⟨(0,o),by simp,ho,hI0,λh=>h⟩ ?_ ?_
  .simp[Vs.LeL,Vs.look,aA,aS,aJ,Vs.hset,aK,aLa he,aLb he]
 all_goals
  rintro⟨⟨i,o'⟩,hi,ho',hrun,hq⟩;dsimp only at hi ho' hrun hq⊢;have hso:=eG ho';have hd6:=ho'.2.1;have ht20:=ho'.2.2.2.1;have hk1:(E cD o'.trays).take o'.trays.length=E cD o'.trays:=Aj (by rw[aH];exact Ar _);have hk2:(E cTs o'.totals).take o'.totals.length=E cTs o'.totals:=Aj (by rw[aH];exact Ar _);by_cases he':o'.totals.length=0
 .exact absurd he' (hq he)
 rotate_left
 .rw[gT_e he',gH_e he'];have WD:=aJi o' hso he'
  try simp -dsimp only[go_sem,cO,cS]
  refine Br.mk (λhc=>?_) λhc=>?_
  .have hlt:i<fl.length:=Dq;have hw:=aG hlt (by omega);have gx:(E cS fl).getD i []=cS fl[i]:=aN hlt;have hzx:=hz _ (Aa hlt);have LS:=aIk fl[i] (wO o'.trays:Int) hzx;cases hv:lM fl[i] (wO o'.trays)
   .rw[hv] at LS;have hstop:=uX hlt hrun (by unfold dsC;rw[hv];simp);rw[hR] at hstop;subst hstop
    repeat' first|simp -dsimp only[go_sem,gx,hk1,hk2,roV,aH3 he',cO,cS]|apply Br.mk<;>intro h<;>try simp -dsimp only[h]|refine aB.c (by first|exact WD|exact LS) ?_|refine aC ?_|fail
    all_goals first|omega|exact⟨_,_,rfl,rfl⟩|exact⟨⟨_,_,rfl,rfl⟩,λh=>h rfl⟩
   .rw[hv] at LS;by_cases h0:stC fl[i] o'=0
    .have hd:dsC fl[i] o'=0:=by unfold dsC;rw[hv];exact h0
     have hnext:=aBl hlt hrun hd;have hok:=aIw ho' hd;have htl:=aJ9 fl[i] o';by_cases h7:fl[i].kind=7
     .have DO:=aG5 fl[i] hzx o' w ho' hv he' h7 h0;obtain⟨q1,q2⟩:=aFs (o:=o') h7;have hm:(stO fl[i] o').totals.length=o'.totals.length+1:=by rw[q1,AQ];rfl
      have hne:(stO fl[i] o').totals.length≠0:=by omega
      have hgT:=aLa hne;have hgH:=aLb hne;generalize stO fl[i] o'=o2 at *
      repeat' first|simp -dsimp only[go_sem,gx,hw,cO,cS]|apply Br.mk<;>intro h<;>try simp -dsimp only[h]|refine aB.borG (B:=[.t 6 0,.t 9 0]) (by first|exact DO) rfl ?_|refine aB.c (by first|exact WD|exact LS) ?_|refine aC ?_|fail
      all_goals first|omega|(refine⟨⟨(i+1,o2),by simp only;omega,hok,hnext,λ_=>hne⟩,.inr ⟨.t 26 2,.t 9 1,by decide,rfl,?_⟩,by simp only;omega⟩;simp[nN,Vs.nmF,Vs.rn,Vs.rnL,Vs.rnB,Vs.LeL,Vs.look,aA,aS,aJ,Vs.hset,aK,hgT,hgH,q1,q2];done)
     .have DO:=aJm fl[i] hzx o' w ho' hv he' h7 h0;obtain⟨q1,q2⟩:=aHV (o:=o') h7;have he2:(stO fl[i] o').totals.length=0:=by rw[q1];exact he'
      have hgT:=gT_e he2;have hgH:=gH_e he2;generalize stO fl[i] o'=o2 at *
      repeat' first|simp -dsimp only[go_sem,gx,hw,cO,cS]|apply Br.mk<;>intro h<;>try simp -dsimp only[h]|refine aB.borG (B:=[.t 6 0,.t 9 0]) (by first|exact DO) rfl ?_|refine aB.c (by first|exact WD|exact LS) ?_|refine aC ?_|fail
      all_goals first|omega|(refine⟨⟨(i+1,o2),by simp only;omega,hok,hnext,λh=>by rw[q1];exact hq h⟩,.inl ?_,by simp only;omega⟩;simp[Vs.LeL,Vs.look,aA,aS,aJ,Vs.hset,aK,hgT,hgH,q1,q2];done)
    .have DO:=aJl fl[i] hzx o' w ho' hv he' h0;have e0:(stC fl[i] o' != 0)=true:=by simp[h0]
     have hstop:=uX hlt hrun (by unfold dsC;rw[hv];exact h0);rw[hR] at hstop;subst hstop;generalize stC fl[i] o'=c at *
     repeat' first|simp -dsimp only[go_sem,gx,e0,hk1,hk2,roV,aH3 he',cO,cS]|apply Br.mk<;>intro h<;>try simp -dsimp only[h]|refine aB.borG (B:=[.t 6 0,.t 9 0]) (by first|exact DO) rfl ?_|refine aB.c (by first|exact WD|exact LS) ?_|refine aC ?_|fail
     all_goals first|omega|exact⟨_,_,rfl,rfl⟩|exact⟨⟨_,_,rfl,rfl⟩,λh=>h rfl⟩
  .have hge:i=fl.length:=by
    have:¬i<fl.length:=Dq;omega
   subst hge;have hstop:=aCB hrun;rw[hR] at hstop;subst hstop
   repeat' first|simp -dsimp only[go_sem,hk1,hk2,roV,aH3 he',cO,cS]|apply Br.mk<;>intro h<;>try simp -dsimp only[h]|refine And.intro ?_ (λh=>absurd rfl h)|refine aC ?_|fail
   all_goals first|omega|exact⟨_,_,rfl,rfl⟩|exact⟨⟨_,_,rfl,rfl⟩,λh=>h rfl⟩
 all_goals
  rw[aLa he',aLb he'];have WD:=xZ o' hso
  try simp -dsimp only[go_sem,cO,cS]
  refine Br.mk (λhc=>?_) λhc=>?_
  .have hlt:i<fl.length:=Dq;have hw:=aG hlt (by omega);have gx:(E cS fl).getD i []=cS fl[i]:=aN hlt;have hzx:=hz _ (Aa hlt);have LS:=aIk fl[i] (wO o'.trays:Int) hzx;cases hv:lM fl[i] (wO o'.trays)
   .rw[hv] at LS;have hstop:=uX hlt hrun (by unfold dsC;rw[hv];simp);rw[hR] at hstop;subst hstop
    repeat' first|simp -dsimp only[go_sem,gx,hk1,hk2,roV,aH2 he',cO,cS]|apply Br.mk<;>intro h<;>try simp -dsimp only[h]|refine aB.c (by first|exact WD|exact LS) ?_|refine aC ?_|fail
    all_goals first|omega|exact⟨_,_,rfl,rfl⟩|exact⟨⟨_,_,rfl,rfl⟩,λh=>h rfl⟩
   .rw[hv] at LS;by_cases h0:stC fl[i] o'=0
    .have hd:dsC fl[i] o'=0:=by unfold dsC;rw[hv];exact h0
     have hnext:=aBl hlt hrun hd;have hok:=aIw ho' hd;have htl:=aJ9 fl[i] o';by_cases h7:fl[i].kind=7
     .have DO:=aG4 fl[i] hzx o' w ho' hv h7 h0;obtain⟨q1,q2⟩:=aFs (o:=o') h7;have hm:(stO fl[i] o').totals.length=o'.totals.length+1:=by rw[q1,AQ];rfl
      have hne:(stO fl[i] o').totals.length≠0:=by omega
      have hgT:=aLa hne;have hgH:=aLb hne;generalize stO fl[i] o'=o2 at *
      repeat' first|simp -dsimp only[go_sem,gx,hw,cO,cS]|apply Br.mk<;>intro h<;>try simp -dsimp only[h]|refine aB.borG (B:=[.t 6 0,.t 9 0,.t 9 1]) (by first|exact DO) rfl ?_|refine aB.c (by first|exact WD|exact LS) ?_|refine aC ?_|fail
      all_goals first|omega|(refine⟨⟨(i+1,o2),by simp only;omega,hok,hnext,λ_=>hne⟩,.inr ⟨.t 26 3,.t 9 1,by decide,rfl,?_⟩,by simp only;omega⟩;simp[nN,Vs.nmF,Vs.rn,Vs.rnL,Vs.rnB,Vs.LeL,Vs.look,aA,aS,aJ,Vs.hset,aK,hgT,hgH,q1,q2];done)
     .have DO:=aJk fl[i] hzx o' w ho' hv h7 h0;obtain⟨q1,q2⟩:=aHV (o:=o') h7;have he2:(stO fl[i] o').totals.length≠0:=by rw[q1];exact he'
      have hgT:=aLa he2;have hgH:=aLb he2;generalize stO fl[i] o'=o2 at *
      repeat' first|simp -dsimp only[go_sem,gx,hw,cO,cS]|apply Br.mk<;>intro h<;>try simp -dsimp only[h]|refine aB.borG (B:=[.t 6 0,.t 9 0,.t 9 1]) (by first|exact DO) rfl ?_|refine aB.c (by first|exact WD|exact LS) ?_|refine aC ?_|fail
      all_goals first|omega|(refine⟨⟨(i+1,o2),by simp only;omega,hok,hnext,λh=>by rw[q1];exact hq h⟩,.inl ?_,by simp only;omega⟩;simp[Vs.LeL,Vs.look,aA,aS,aJ,Vs.hset,aK,hgT,hgH,q1,q2];done)
    .have DO:=aJj fl[i] hzx o' w ho' hv h0;have e0:(stC fl[i] o' != 0)=true:=by simp[h0]
     have hstop:=uX hlt hrun (by unfold dsC;rw[hv];exact h0);rw[hR] at hstop;subst hstop;generalize stC fl[i] o'=c at *
     repeat' first|simp -dsimp only[go_sem,gx,e0,hk1,hk2,roV,aH2 he',cO,cS]|apply Br.mk<;>intro h<;>try simp -dsimp only[h]|refine aB.borG (B:=[.t 6 0,.t 9 0,.t 9 1]) (by first|exact DO) rfl ?_|refine aB.c (by first|exact WD|exact LS) ?_|refine aC ?_|fail
     all_goals first|omega|exact⟨_,_,rfl,rfl⟩|exact⟨⟨_,_,rfl,rfl⟩,λh=>h rfl⟩
  .have hge:i=fl.length:=by
    have:¬i<fl.length:=Dq;omega
   subst hge;have hstop:=aCB hrun;rw[hR] at hstop;subst hstop
   repeat' first|simp -dsimp only[go_sem,hk1,hk2,roV,aH2 he',cO,cS]|apply Br.mk<;>intro h<;>try simp -dsimp only[h]|refine And.intro ?_ (λh=>absurd rfl h)|refine aC ?_|fail
   all_goals first|omega|exact⟨_,_,rfl,rfl⟩|exact⟨⟨_,_,rfl,rfl⟩,λh=>h rfl⟩
def rfO (fl:List Stp) (o:Off):Off:=if lC o=true∧fl.length<=20 then(run o fl).1 else⟨[],[]⟩
def rfN (fl:List Stp) (o:Off):Nat:=if lC o=true∧fl.length<=20 then(run o fl).2 else 0
def rfK (fl:List Stp) (o:Off):Int:=if lC o=true then if fl.length<=20 then 0 else 2 else 1
theorem aCE {fl:List Stp}{o:Off} (h:lC o=true∧fl.length<=20):rfO fl o=(run o fl).1∧rfN fl o=(run o fl).2∧rfK fl o=0:=by simp[rfO,rfN,rfK,h]
theorem aCF {fl:List Stp}{o:Off} (h:¬(lC o=true∧fl.length<=20)):rfO fl o=⟨[],[]⟩∧rfN fl o=0:=by simp only[rfO,rfN,AB h];exact⟨trivial,trivial⟩
theorem aI1 {fl:List Stp}{o:Off} (I:dY o):dY (rfO fl o)∧1+jR (rfO fl o)<=900000000:=by
 by_cases h:lC o=true∧fl.length<=20
 .rw[(aCE h).1];have H:=(aKo fl o (aG0 h.1 I)).1;exact⟨eG H,aMi H⟩
 .rw[(aCF h).1];exact⟨⟨⟨by simp,λd F=>(by cases F)⟩,⟨by simp,λd F=>(by cases F)⟩⟩,by simp[jR,dD]⟩
theorem aCv {f:FuncId}{ys:List AV}{x y F H:AV}{c d:AV} (h:Vs.Fn Tryz.prog f [] ys (.tup [.agg [x,y],c,d]) []) (J:dA (.tup [.agg [x,y],c,d])=true) (I:∀S w u,RC S w x u->RC S w F u) (h2:∀S w u,RC S w y u->RC S w H u):Vs.Fn Tryz.prog f [] ys (.tup [.agg [F,H],c,d]) []:=
 Vs.Fn.resAs h J λS w v O=>by
  cases O with
  | tup _ vs hl hr =>
   refine .tup _ vs hl λj L=>?_
   match j,L with
   |0,_=>exact aNF (hr 0 (by simp)) (I S w) (h2 S w)
   |1,_=>exact hr 1 (by simp)
   |2,_=>exact hr 2 (by simp)
attribute [local go_sem] Int.reduceBEq Int.reduceBNe cC cFd aH Af Ag Al Aq Ae Ai Ac Ak Ab Ah Am Au Ap Ao AX BH Vs.Name.t.injEq Aw A9 Vs.Name.b.injEq AJ Bn roV in
theorem aEG (fl:List Stp) (L:∀x,x∈fl->x.text.size<=1048576) (J:fl.length<=1048576) (o:Off) (U:dY o):Fz F.uW [.agg (cO o),.sl 9 (E cS fl)] (.tup [.agg (cO (rfO fl o)),.v (.int .i64 (rfN fl o:Nat)),.v (.int .i64 (rfK fl o))]):=by
 have OK:=l15Ok o U;cases hb:lC o
 .rw[hb] at OK;rw[(aCF (by simp[hb])).1,(aCF (by simp[hb])).2,show rfK fl o=1 by simp[rfK,hb]];refine aCv (x:=.v (.slice none 0 0)) (y:=.v (.slice none 0 0)) ?_ rfl (λ_ _ _=>xS) λ_ _ _=>xS;refine fn0 Cd.s_RunFlow_k λX=>?_
  repeat' first|simp -dsimp only[go_sem,cO,cS]|apply Br.mk<;>intro h<;>try simp -dsimp only[h]|refine aB.c (by first|exact OK) ?_|refine aC ?_|fail
  all_goals first|omega|exact⟨_,_,rfl,rfl⟩|exact⟨⟨_,_,rfl,rfl⟩,λh=>h rfl⟩
 rw[hb] at OK;by_cases h2:fl.length<=20
 .have I:decide ((fl.length:Int)>20)=false:=AO (by omega);have O:=aNR o _ (aG0 hb U) fl L J;rw[(aCE ⟨hb,h2⟩).1,(aCE ⟨hb,h2⟩).2.1,(aCE ⟨hb,h2⟩).2.2];generalize run o fl=R at *
  refine aCv (x:=.sl 1 (E cD R.1.trays)) (y:=roT R.1) ?_ (by unfold roT;split<;>rfl) (λ_ _ _ h=>h) (λ_ _ _ h=>?_)
  .by_cases H:R.1.totals.length=0
   all_goals
    simp only[roV,roT,H,Bj,Bd] at O⊢;refine fn0 Cd.s_RunFlow_k λX=>?_
    repeat' first|simp -dsimp only[go_sem,cO,cS,I]|apply Br.mk<;>intro h<;>try simp -dsimp only[h]|refine aB.c (by first|exact OK|exact O) ?_|refine aC ?_|fail
    all_goals first|omega|exact⟨_,_,rfl,rfl⟩|exact⟨⟨_,_,rfl,rfl⟩,λh=>h rfl⟩
  .by_cases H:R.1.totals.length=0
   .rw[aH3 H] at h;rw[Bt H];exact xS h
   .rw[aH2 H] at h;exact h
 .have I:decide ((fl.length:Int)>20)=true:=A7 (by omega);rw[(aCF (by simp[h2])).1,(aCF (by simp[h2])).2,show rfK fl o=2 by simp[rfK,hb,h2]];refine aCv (x:=.v (.slice none 0 0)) (y:=.v (.slice none 0 0)) ?_ rfl (λ_ _ _=>xS) λ_ _ _=>xS;refine fn0 Cd.s_RunFlow_k λX=>?_
  repeat' first|simp -dsimp only[go_sem,cO,cS,I]|apply Br.mk<;>intro h<;>try simp -dsimp only[h]|refine aB.c (by first|exact OK) ?_|refine aC ?_|fail
  all_goals first|omega|exact⟨_,_,rfl,rfl⟩|exact⟨⟨_,_,rfl,rfl⟩,λh=>h rfl⟩
end
section
variable [Vs.Envs]
attribute [local irreducible] Vs.Fn lM wO stC dsC stO lC bK aO bL bM l03 chB rk cd3 chI stp aP
theorem aH7 (w:World) (k:Nat):Vs.Own (λ_=>False) w none 0 k [] (.slice none 0 0):=by
 refine⟨λF l z h=>?_,⟨by simp,.inl ⟨rfl,rfl⟩⟩,by simp⟩;obtain⟨_,rfl,_⟩:k=F∧[]=l∧false=z:=by simpa using h
 exact⟨by simp,none,0,rfl,by simp,by decide,λh=>absurd h (by simp),λ_ _=>.inl ⟨rfl,rfl,rfl⟩⟩
theorem aBa.nil (w w':World):aBa w w' ⟨[],[]⟩ (slW (none,0,0)) (slW (none,0,0)):=
 ⟨⟨none,0,[],λ_=>⟨none,[],λ_=>none,λ_=>0⟩,none,0,[],λ_=>none,λ_=>0⟩,⟨aH7 _ _,rfl,by simp,by simp,by simp,aH7 _ _,⟨rfl,by simp,by simp⟩,by simp,λb H h2=>by simp[OM.DT] at H,λb F=>by simp[OM.D,OM.DT,OM.DS] at F⟩,λb F=>by simp[OM.D,OM.DT,OM.DS] at F⟩
end
section
variable [Vs.Envs]
attribute [local irreducible] Vs.Fn bA mgC iM mtC iP oC mat tX dkC dkL jS jX lM wO dsC stO lC run bK aO bL bM l03 chB rk cd3 chI stp aP
theorem aJO {vs:Array Value} (h:3=vs.size):vs=#[vs.getD 0 undef,vs.getD 1 undef,vs.getD 2 undef]:=by
 obtain⟨l⟩:=vs
 match l,h with
 | [x,y,z],_=>rfl
theorem aDR {S:Nat->Prop}{w:World}{ρ:Vs.Name->Option Nat}{κ:Vs.Name->Nat}{g:Vs.Name->Option Vs.Blk}{x y c d u:Value} (h:RV S w ρ κ g (.tup [.agg [.v x,.v y],.v c,.v d]) u):u=.tuple #[.agg #[x,y],c,d]:=by
 obtain⟨us,rfl,I,F⟩:=uC h;have U:us.getD 1 undef=c:=bE (F 1 (by simp));have h2:us.getD 2 undef=d:=bE (F 2 (by simp));obtain⟨vs,e,J,H⟩:=jW (F 0 (by simp));have L:vs.getD 0 undef=x:=bE (H 0 (by simp));have O:vs.getD 1 undef=y:=bE (H 1 (by simp));rw[aJO I,e,U,h2,uJ J,L,O]
attribute [local go_sem] Bh Bz Int.reduceBEq Int.reduceBNe cC cFd Af Ag Al Aq Ae Ai Ac Ak Ab Ah Am aH cD cO cP slW in
set_option maxRecDepth 20000 in
theorem aHC (T:List (List (List Int))) (U:List (List Tot)) (wd:Nat) (ho:okO wd ⟨T,U⟩) (hj:lC ⟨T,U⟩=true) (fl:List Stp) (h4:∀x,x∈fl->x.text.size<=1048576) (h7:fl.length<=20) {S:Nat->Prop}{w:World}{vs:Array Value} (hS:∀b,S b->b<w.heap.size) (he:Env S w) (hx:vs.size=2) (Y:∀j,j<2->RC S w (([.agg [.sl 1 (E cD T),.sl 1 (E cTs U)],.sl 9 (E cS fl)]:List AV).getD j .junk) (vs.getD j undef)):Calls Tryz.prog F.gV vs w (λe0 w0=>∃O L,e0=.returned (.tuple #[.agg #[O,L],.int .i64 ((run ⟨T,U⟩ fl).2:Nat),.int .i64 0])∧kY w w0∧aBa w w0 (run ⟨T,U⟩ fl).1 O L):=by
 have VO:Fz F.jP [.agg [.sl 1 (E cD T),.sl 1 (E cTs U)]] (.v (.bool true)):=by
  have:=vJ ⟨T,U⟩ (eG ho);rw[hj] at this;exact this
 have hd:(E cS fl).length=fl.length:=aH _;have ha:decide ((fl.length:Int)>20)=false:=AO (by omega);obtain⟨h1,h2,_⟩:=Cd.i_RunFlow_k.o;obtain⟨h5,J,hc⟩:=AY.1 h2;have hz:(Tryz.f29.body.map (zB Tryz.f29.ntmps (aW Tryz.prog)))=some true:=by kernel_rfl
 rw[J] at hz;have hm:=bB Tryz.mixed;refine Vs.Pt.calls (dr:=aW Tryz.prog) (ac:=Cd.gV) h1 J hc (by simpa using hz) (args:=[.agg [.sl 1 (E cD T),.sl 1 (E cTs U)],.sl 9 (E cS fl)]) (by rw[Cd.i_RunFlow_k.n];exact Bc rfl) hS he hx Y λC1 a H hh h6 Z=>?_;unfold Cd.gV
 refine Z.goS (τ:=⟨[(1,.sl 9 (E cS fl)),(2,.ptr (.t 2 0) 0 0),(4,.ptr (.t 4 0) 0 0)],[(.t 2 0,.var [.sl 1 (E cD T),.sl 1 (E cTs U)] false),(.t 4 0,.var [.v (.slice none 0 0),.v (.slice none 0 0)] false)]⟩) hm H 2 _ (E:=λ_ _=>False) [(.t 4 0,.var [.v (.slice none 0 0),.v (.slice none 0 0)] false)] (λp Z=>by
     rw[Au.1 Z];exact⟨rfl,rfl,rfl⟩) [(1,.sl 9 (E cS fl)),(2,.ro [.sl 1 (E cD T),.sl 1 (E cTs U)]),(4,.ptr (.t 4 0) 0 0)] (λp Z=>?_) (λC hC=>?_) (λi σ h=>h) (λC a w hl hg=>hg.no.elim) λI1 a1 w1 S1 p1 hq=>?_
 .simp only[Ap,Ao,AX] at Z;rcases Z with rfl|rfl|rfl
  .exact .inr ⟨rfl,_,rfl,λn hn=>by cases hn⟩
  .exact .inr ⟨rfl,_,rfl,λn hn=>by
     have:n=.t 2 0:=by simpa using hn
     subst this;rfl⟩
  .exact .inl ⟨rfl,rfl⟩
 .simp -dsimp only[go_sem,hd,ha,cTs,cS]
  repeat' first|simp -dsimp only[go_sem,hd,ha,cTs,cS]|apply Br.mk<;>intro h<;>try simp -dsimp only[h]|refine aB.c (by first|exact VO) ?_|refine aC ?_|fail
  all_goals first|(simp[Vs.LeL,Vs.look,aA];done)|exact⟨by simp[Vs.LeL,Vs.look,aA],trivial⟩|omega|(and_intros<;>first|trivial|(simp[Vs.LeL,Vs.look,aA];done)|omega)
 refine At.seq (At.rg (hq.rgN H 2 (τ:=⟨[(20,.agg [.sl 1 (E cD T),.sl 1 (E cTs U)]),(21,.sl 9 (E cS fl)),(4,.ptr (.t 4 0) 0 0)],[(.t 4 0,.var [.v (.slice none 0 0),.v (.slice none 0 0)] false)]⟩) ?_ λa3 w3 S3 p3 I=>I.rgc H (ts:=[20,21]) (ys:=[.agg [.sl 1 (E cD T),.sl 1 (E cTs U)],.sl 9 (E cS fl)]) (jZ Cd.i_runFlow_k.o) rfl rfl λus hw hr=>?_))
 .simp -dsimp only[go_sem,cTs,cS]
  first|(simp[Vs.LeL,Vs.look,aA];done)
 refine(aGV T U wd ho fl h4 (by omega) I.dom I.env hw hr).mono ?_;rintro e0 w4 ⟨tv0,sv0,rfl,hg,m,hom,hon⟩;obtain⟨O,L,rfl,rfl⟩:=hom.sls;refine⟨_,rfl,?_⟩;have h3:C1.w0.heap.size<=w3.heap.size:=I.size;have hs:=(I.grow hg (D:=m.D) (λb J=>⟨hon b J,hom.lt b J⟩) [(4,.ptr (.t 4 0) 0 0)] (fvC ⟨rfl,.inl rfl⟩ fvN)).putR (d:=22) (by rw[H,Cd.i_RunFlow_k.n];omega) (r:=.tup [.agg [.v (slW O),.v (slW L)],.v (.int .i64 ((run ⟨T,U⟩ fl).2:Nat))]) (aKB _ _ _)
 letI I5:=Vs.keepE (λb=>S3 b∨m.D b) w4
 refine hs.rgN H 6 (τ:=⟨[(4,.ptr (.t 4 0) 0 0),(7,.ptr (.t 7 0) 0 0),(8,.v (.int .i64 ((run ⟨T,U⟩ fl).2:Nat)))],[(.t 4 0,.var [.v (.slice none 0 0),.v (.slice none 0 0)] false),(.t 7 0,.var [.v (slW O),.v (slW L)] false)]⟩) ?_ λa5 w5 S5 p5 ht=>RgL.nil ?_
 .simp -dsimp only[go_sem,cTs,cS]
  first|(simp[Vs.LeL,Vs.look,aA];done)
 refine ht.goT dM H 1 _ (τ:=⟨[(4,.ptr (.t 4 0) 0 0),(5,.v (.int .i64 ((run ⟨T,U⟩ fl).2:Nat))),(6,.v (.int .i64 0))],[(.t 4 0,.var [.v (slW O),.v (slW L)] false)]⟩) (λC hC=>?_) λa6 w6 S6 p6 hf=>?_
 .simp -dsimp only[go_sem,cTs,cS]
  repeat' first|simp -dsimp only[go_sem,cTs,cS]|apply Br.mk<;>intro h<;>try simp -dsimp only[h]|refine aC ?_|fail
  all_goals first|(simp[Vs.LeL,Vs.look,aA];done)|exact⟨by simp[Vs.LeL,Vs.look,aA],trivial⟩|omega|(and_intros<;>first|trivial|(simp[Vs.LeL,Vs.look,aA];done)|omega)
 obtain ⟨hk,u,ρ,κ,hv,hy,_⟩:=hf.resX (fn:=Tryz.f29) (x:=.tup [.agg [.v (slW O),.v (slW L)],.v (.int .i64 ((run ⟨T,U⟩ fl).2:Nat)),.v (.int .i64 0)]) (by
   show dQ Tryz.prog _ _ [_,_,_]
   simp -dsimp only[go_sem,cTs,cS]
   try simp[dU])
 have hu:=aDR hy;subst hu;refine At.ret ?_
 try simp only[Exit.inBlock,Exit.then]
 refine⟨by first|exact .inl rfl|exact .inl trivial,hk,_,hv,slW O,slW L,rfl,hh ▸ hf.out,m,hom.past (S:=λb=>S3 b∨m.D b) (λb J=>.inr J) (p5.trans p6),λb J=>Bl (hh ▸ h3) (hon b J)⟩
end
section
variable [Vs.Envs]
attribute [local irreducible] Vs.Fn lM wO stC dsC stO lC run bK aO bL bM l03 chB rk cd3 chI stp aP
theorem aI6 {S:Nat->Prop}{w:World}{x y c d u:Value} (h:RC S w (.tup [.agg [.v x,.v y],.v c,.v d]) u):u=.tuple #[.agg #[x,y],c,d]:=
 aDR (ρ:=λ_=>none) (κ:=λ_=>0) (g:=λ_=>none) (.clo h)
attribute [local go_sem] cC cFd aH Af Ag Al Aq Ae Ai Ac Ak Ab Ah Am noO in
theorem aDG (fl:List Stp) (L:fl.length<=1048576) (o:Off) (O:dY o) (J:¬(lC o=true∧fl.length<=20)):Fz F.gV [.agg (cO o),.sl 9 (E cS fl)] (.tup [.agg [.v (slW (none,0,0)),.v (slW (none,0,0))],.v (.int .i64 0),.v (.int .i64 (rfK fl o))]):=by
 have H:=vJ o O;have I:decide ((fl.length:Int)>20) = !decide (fl.length<=20):=by by_cases h:fl.length<=20<;>simp[h]<;>omega
 cases hb:lC o
 .rw[hb] at H;rw[show rfK fl o=1 by simp[rfK,hb]];refine fn0 Cd.i_RunFlow_k λX=>?_
  repeat' first|simp -dsimp only[go_sem,cO,cS,I]|apply Br.mk<;>intro h<;>try simp -dsimp only[h]|refine aB.c (by first|exact H) ?_|refine aC ?_|fail
  all_goals first|omega|exact⟨_,_,rfl,rfl⟩|exact⟨⟨_,_,rfl,rfl⟩,λh=>h rfl⟩
 .rw[hb] at H;have h2:¬fl.length<=20:=λh=>J ⟨hb,h⟩;rw[AO h2] at I;rw[show rfK fl o=2 by simp[rfK,hb,h2]];refine fn0 Cd.i_RunFlow_k λX=>?_
  repeat' first|simp -dsimp only[go_sem,cO,cS,I]|apply Br.mk<;>intro h<;>try simp -dsimp only[h]|refine aB.c (by first|exact H) ?_|refine aC ?_|fail
  all_goals first|omega|exact⟨_,_,rfl,rfl⟩|exact⟨⟨_,_,rfl,rfl⟩,λh=>h rfl⟩
theorem aBZ (fl:List Stp) (L:∀x,x∈fl->x.text.size<=1048576) (J:fl.length<=1048576) (o:Off) (ho:dY o) {S:Nat->Prop}{w:World}{vs:Array Value} (Y:∀b,S b->b<w.heap.size) (Z:Env S w) (I:vs.size=2) (H:∀j,j<2->RC S w (([.agg (cO o),.sl 9 (E cS fl)]:List AV).getD j .junk) (vs.getD j undef)) :
  Calls Tryz.prog F.gV vs w λe w'=>∃U O:Sl,e=.returned (.tuple #[.agg #[slW U,slW O],.int .i64 (rfN fl o:Nat),.int .i64 (rfK fl o)])∧kY w w'∧aBa w w' (rfO fl o) (slW U) (slW O):=by
 by_cases h:lC o=true∧fl.length<=20
 .rw[(aCE h).1,(aCE h).2.1,(aCE h).2.2];refine(aHC o.trays o.totals _ (aG0 h.1 ho) h.1 fl L h.2 Y Z I H).mono ?_;rintro e w' ⟨U,O,rfl,hg,m,hom,hn⟩;obtain⟨t,s,rfl,rfl⟩:=hom.sls;exact⟨t,s,rfl,hg,m,hom,hn⟩
 .rw[(aCF h).1,(aCF h).2];refine((aDG fl J o ho h).calls0 rfl Y Z I H).mono ?_;rintro e w' ⟨v,S',rfl,hg,hv⟩;rw[aI6 hv];exact⟨_,_,rfl,hg,aBa.nil _ _⟩
theorem aE1 (fl:List Stp) (L:∀x,x∈fl->x.text.size<=1048576) (I:fl.length<=1048576) (o:Off) (ho:dY o):Fz F.gV [.agg (cO o),.sl 9 (E cS fl)] (.tup [.agg (cO (rfO fl o)),.v (.int .i64 (rfN fl o:Nat)),.v (.int .i64 (rfK fl o))]):=by
 refine Vs.Fn.of_new (jZ Cd.i_RunFlow_k.o) (by intro y U;simp only[Ap,Ao,AX] at U;rcases U with rfl|rfl<;>rfl) λS w vs Y Z J H=>(aBZ fl L I o ho Y Z J H).mono ?_;rintro e w' ⟨tv,sv,rfl,hg,m,hom,hn⟩;refine⟨_,m.D,rfl,hg,λb O=>⟨hn b O,hom.lt b O⟩,.tup _ _ rfl λj hj=>?_⟩
 match j,hj with
 |0,_=>exact hom.rd
 |1,_=>exact .v _
 |2,_=>exact .v _
end
section
variable [Vs.Envs]
attribute [local irreducible] Vs.Fn mkD dL mtx jR mkO lL uO slW bK aO bL bM l03 chB rk cd3 chI stp aP
abbrev vW (a b:Sl):Vs.Blk:=.var [.v (slW a),.v (slW b)] false
end
end Go.Proofs.YtkgeiaideklmoaaGreat
