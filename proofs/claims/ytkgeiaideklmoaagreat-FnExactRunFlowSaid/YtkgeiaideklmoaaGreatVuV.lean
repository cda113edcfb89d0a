/- A row that a function hands over, told by memory. -/
import Derived.Test.YtkgeiaideklmoaaGreatVuN
set_option linter.all false
set_option maxHeartbeats 8000000
namespace Go.Vs
section
variable {P:Program}
section
variable [Envs]
end
end
section
variable {P:Program}
section
variable [Envs]
theorem aEm {f:FuncId}{k:Nat}{rows:List (List AV)}{ys:List AV}{n:Nat} (h:Fn P f [] ys (.loc (.b 0) 0 n) [some (.arr k rows false)]) (J:n=rows.length) (L:∀r,r∈rows->fJ r=true)
  {S:Nat->Prop}{w:World}{vs:Array Value} (Y:∀b,S b->b<w.heap.size) (Z:Env S w) (U:vs.size=ys.length) (I:∀j,j<ys.length->RC S w (ys.getD j .junk) (vs.getD j undef)) :
  Calls P f vs w λe w'=>∃v x c,e=.returned v∧kY w w'∧Own (λ_=>False) w' x c k rows v∧∀b,x=some b->w.heap.size<=b∧b<w'.heap.size:=by
 subst J
 have F:∀n,Hn (([]:List Blk).map some) n=none:=by
  intro n;cases n<;>simp[Hn]
 refine(h.2 S w (λ_=>none) (λ_=>0) vs ⟨λn b H=>(by rw[F] at H;cases H),λn m y J _ _ _=>(by rw[F] at J;cases J),Y,Z⟩ (by simp) U λj hj=>.clo (I j hj)).mono ?_;rintro e w' ⟨v,S',ρ',κ',rfl,hp,hr⟩;have H:=hp.hok.blk (.b 0) (.arr k rows false) rfl;have hl:=iN hr
 have ho:Own S' w' (ρ' (.b 0)) (κ' (.b 0)) k rows v:=⟨λk' l' z' O=>by
   obtain⟨rfl,rfl,rfl⟩:k=k'∧rows=l'∧false=z':=by simpa using O
   exact hl k rows false rfl,H,L⟩
 refine⟨v,ρ' (.b 0),κ' (.b 0),rfl,⟨hp.size,λb H=>hp.old b H aBq,hp.out⟩,ho.mono (λ_ _ h=>h) λ_ _=>rfl,λb H=>⟨?_,hp.hok.lt (n:=.b 0) (by rfl) H⟩⟩;rcases hp.mine 0 b (by rfl) H with h|h
 .exact h
 .exact absurd h aBq
theorem At.mark {nt:Nat}{dr:Nat->Array Oper->Option (List Nat)}{Q:Exit->Act->World->Prop}{C0 C:Ctx}{σ τ τ':St}{a:Act}{w:World}{S:Nat->Prop}{ρ:Name->Option Nat}{κ:Name->Nat}{D:Nat->Prop} (hm:OK C σ.f a w S ρ κ) (I:C.nt=nt) (hk:Later C0 C) (hh:Hid C D (.v undef) undef) (hM:∀b,D b->C0.Mut b)
  {pre post:List aI}{f:FuncId}{ts:List Nat}{vs:List Value}{bor:List Nat}{d:Nat}{u:Value}{out:List Nat}{R:World->Prop} (J:iO P f) (hd:d<nt)
  (hv:vc P (fun σ'=>LeL σ' τ) pre σ) (hl:ts.length=vs.length) (hn:∀i,i<ts.length->look τ.s (ts.getD i 0)=.v (vs.getD i undef))
  (hc:∀(w:World) (S:Nat->Prop),(∀b,S b->b<w.heap.size)->Env S w->(∀b,D b->¬S b)->C.w0.heap.size<=w.heap.size->(∀b,D b->w.heap[b]? = C.w0.heap[b]?)->Calls P f vs.toArray w λe w'=>e=.returned u∧w.heap.size<=w'.heap.size∧(∀b,b<w.heap.size->¬D b->w'.heap[b]? = w.heap[b]?)∧(w'.os=w.os∧w'.output=w.output)∧R w')
  (hp:vc P (fun σ'=>LeL σ' τ') post ⟨(d,.v u)::τ.s,τ.h⟩)
  (hN:∀(a:Act) (w:World) (C':Ctx) (S:Nat->Prop) (ρ:Name->Option Nat) (κ:Name->Nat),OK C' τ'.f a w S ρ κ->C'.nt=nt->Later C0 C'->Hid C' D (.v undef) undef->R C'.w0->Q .normal a w) :
  At P nt dr (.region (pre++⟨some d,.call (.func f) (ts.map .tmp) bor,none⟩::post) out []) Q a w:=by
 refine At.region hm I rfl ?_;refine aB5 (K:=fun σ'=>LeL σ' τ) (fun σ1 Y=>?_) _ _ hv;intro a w S2 ρ2 κ2 op ops hf O;have F:=hf.le Y;have H:=hh.same F
 have L:((ts.map Operand.tmp).map a.eval).toArray=vs.toArray:=by
  congr 1;refine List.ext_getElem (by simp[hl]) λi h1 h2=>?_;have hi:i<ts.length:=by simpa using h1
  have h3:=F.slots (ts.getD i 0);rw[show τ.f.s (ts.getD i 0)=_ from hn i hi] at h3;have h4:=bE h3;have e1:ts.getD i 0=ts[i]:=by simp[hi]
  have e2:vs.getD i undef=vs[i]:=by simp[h2]
  rw[e1,e2] at h4;simp only[DF];exact h4
 refine aCd (by rw[I];exact O) rfl F J ?_;rw[L];refine(hc w S2 F.hok.dom F.hok.env (λb J=>H.2.2.1 b J) F.size H.1).mono ?_;rintro e w' ⟨rfl,q1,q2,q3,q4⟩;have Z:=OK.wrote hh F q1 q2 q3;have U:=OK.wroteM hk (λb J=>.inr (hM b J)) F q1 q2 q3;have hj:Hid (C.anew w' S2 τ.f.h ρ2) D (.v undef) undef:=⟨.v _,λb J=>AZ (H.2.1 b J) q1,λb J=>⟨H.2.2.1 b J,λ⟨n,g1,g2⟩=>H.2.2.2 b J n g1 g2⟩⟩;have ha:=Z.put1 (d:=d) (by show d<C.nt;rw[I];exact hd) u;refine⟨_,rfl,C.anew w' S2 τ.f.h ρ2,⟨(d,.v u)::τ.s,τ.h⟩,S2,ρ2,κ2,fun σ'=>LeL σ' τ',I,ha,hp,λa w hg=>?_⟩;obtain⟨S5,ρ5,κ5,he⟩:=hg.le;exact hN a w _ S5 ρ5 κ5 he I U hj q4
theorem OK.flatVar {C:Ctx}{σ:St}{a:Act}{w:World}{S:Nat->Prop}{ρ:Name->Option Nat}{κ:Name->Nat} (F:OK C σ.f a w S ρ κ) {n:Name}{c:List AV} (hb:aA σ.h n=some (.var c false)) (hc:∀x,x∈c->dA x=true) :
  ∃vs:List Value,vs.length=c.length∧(∀j,j<c.length->RC S w (c.getD j .junk) (vs.getD j undef))∧OK C (⟨σ.s,hset n (.var (vs.map .v) false) σ.h⟩:St).f a w S ρ κ:=by
 obtain⟨x,cs,T,fr,g1,g2,g3,g4,ha,g5,g6,g7⟩:=F.hok.blk n _ (show σ.f.h n=_ from hb)
 let vs:List Value:=(List.range c.length).map λj=>cs.getD j undef
 have Y:vs.length=c.length:=by simp[vs]
 have hv:∀j,j<c.length->vs.getD j undef=cs.getD j undef:=λj J=>by simp[vs,A8,J]
 have hg:∀j,j<c.length->RC S w (c.getD j .junk) (vs.getD j undef):=λj J=>by
  rw[hv j J];refine(g7 j J).2.closed (hc _ ?_);rw[A8,Ba J];exact Aa _
 have U:(⟨σ.s,hset n (.var (vs.map .v) false) σ.h⟩:St).f.h=hput σ.f.h n (some (.var (vs.map .v) false)):=tQ n _ σ.h
 have hN:∀m,eO ρ ρ κ κ σ.f.h (hput σ.f.h n (some (.var (vs.map .v) false))) m:=λm Z H=>by
  simp only[hput] at H;split at H
  .rename_i e;subst e;obtain rfl:=Ay H;exact⟨rfl,rfl,_,hb,by simp[Blk.same,Y]⟩
  .exact⟨rfl,rfl,Z,H,Z.same_refl⟩
 have hS:∀m,((hput σ.f.h n (some (.var (vs.map .v) false))) m).isSome->(σ.f.h m).isSome:=λm I=>by
  obtain⟨Z,H⟩:=AA.1 I;obtain⟨_,_,b,he,_⟩:=hN m Z H;rw[he];rfl
 refine⟨vs,Y,hg,⟨F.nt,F.defers,λt=>?_,⟨λm b I=>?_,λm k y O h2=>?_,F.hok.dom,F.hok.env⟩,F.size,F.old,λm y O h2=>?_,F.S0,F.Snew,F.out,λj b I=>?_⟩⟩
 .show RV S w ρ κ _ (look σ.s t) _
  rw[U];exact(F.slots t).mono (λ_ h=>h) (λ_ _=>rfl) λm _=>hN m
 .rw[U] at I⊢;by_cases e:m=n
  .subst e;simp only[hput,Bj,Ad] at I;subst I;refine⟨x,cs,T,fr,g1,g2,g3,g4,ha,g5,by simpa[Y] using g6,λj J=>?_⟩;have L:j<c.length:=by simpa[Y] using J
   refine⟨(g7 j L).1,.clo ?_⟩
   have e1:(vs.map AV.v).getD j .junk=.v (cs.getD j undef):=by
    rw[←hv j L];simp[A8,Y,L]
   rw[e1];exact .v _
  .have hf:σ.f.h m=some b:=by simpa[hput,e] using I
   exact(F.hok.blk m b hf).mono (λ_ h=>h) (λ_ _ h=>h) (λ_ _=>rfl) (λ_ _=>rfl) rfl rfl λk _=>hN k
 .rw[U] at O h2;exact F.hok.inj m k y (hS m O) (hS k h2)
 .rw[U] at O;exact F.mine m y (hS m O) h2
 .rw[U] at I;obtain⟨_,_,b0,hd,hk⟩:=hN _ _ I;obtain⟨q1,q2,b1,q3,q4⟩:=F.keep j b0 hd;exact⟨q1,q2,b1,q3,Blk.same_trans q4 hk⟩
end
theorem Pt.goV {I:Envs}{nt:Nat}{dr:Nat->Array Oper->Option (List Nat)}{Q:Exit->Act->World->Prop}{C1:Ctx}{σ:St}{a:Act}{w:World}{S:Nat->Prop} (L:Pt I C1 σ a w S) (hh:@fV I P dr) (ho:C1.nt=nt) (n:Nat) (c:aD) {E:rD->St->Prop}{m:Name}{cs:List AV}{s:List (Nat×AV)}{h0:List (Name×Blk)}
  (hc:∀x,x∈cs->dA x=true) (he:∀p,p∈h0->iV p.2∧p.2.fz=false) (hv:∀C:Ctx,C.nt=nt->@aDx I P C dr n c (fun σ'=>LeL σ' ⟨s,(m,.var cs false)::h0⟩) E σ) (hE:∀i σ,¬E (.exit i) σ) (hR:∀C a w,Later C1 C->@cK I C (E .ret) a w->Q .ret a w)
  (hN:∀(vs:List Value) O w' S',vs.length=cs.length->Past S w S' w'->Pt I C1 ⟨s,(m,.var (vs.map .v) false)::h0⟩ O w' S'->(∀j,j<cs.length->RC S' w' (cs.getD j .junk) (vs.getD j undef))->At P nt dr (kU n c) Q O w'):At P nt dr c Q a w:=by
 have hq:=L;obtain⟨hM,hr,C,ρ,κ,hs,hf,hk,J,ha⟩:=L;have F:C.nt=nt:=J.nt.trans ho
 have hl:∀b,S b->b<w.heap.size∧¬C.Mut b:=λb hb=>⟨hq.dom b hb,λhm=>by
   obtain⟨n,hn,hx⟩:=hk b hm;obtain⟨b',Y⟩:=AA.1 hn;exact @OK.noS I _ _ _ _ _ _ _ ha _ _ Y (hr _ (dB Y)).2 _ hx hb⟩
 refine @At.upto P nt dr Q I C hh F (fun σ'=>LeL σ' ⟨s,(m,.var cs false)::h0⟩) E (λi a w Z=>?_) (λa w Z=>hR C a w J Z) n c σ a w S ρ κ ha (hv C F) λO w' Z=>?_
 .obtain⟨σ',_,_,_,h,_⟩:=Z;exact(hE i σ' h).elim
 .obtain⟨σ',S',ρ',κ',hj,hd⟩:=Z;have H:=@OK.le I _ _ _ _ _ _ _ _ hd hj;obtain⟨vs,h1,h2,h3⟩:=@OK.flatVar I C _ O w' S' ρ' κ' H m cs (by simp[aA]) hc;have U:@OK I C (⟨s,(m,.var (vs.map .v) false)::h0⟩:St).f O w' S' ρ' κ':=by simpa[hset] using h3
  exact hN vs O w' S' h1 (Pt.later hs hf hl H) (Pt.of_ok hM (λp L=>by
    rcases Ap.1 L with rfl|L
    . refine⟨?_,rfl⟩
      show fJ _=true
      clear h1 h2 h3 U L
      induction vs with
      |nil=>rfl
      |cons v r ih=>simpa[fJ,flat] using ih
    . exact he p L) J U) h2
end
end Go.Vs
