/- Regions of two sizes whose order is drawn, order by order. -/
import Derived.Test.YtkgeiaideklmoaaGreatVuP
set_option linter.all false
set_option maxHeartbeats 8000000
namespace Go.Vs
section
variable {P:Program}{nt:Nat}{Q:Exit->Act->World->Prop}{a:Act}{w:World}
variable {I:Envs}{C1:Ctx}{σ τ:St}{S:Nat->Prop}
theorem OK.closeAll {C:Ctx}{ρ:Name->Option Nat}{κ:Name->Nat} (O:Later C1 C) (Y:∀b,¬C1.Mut b) (F:@OK I C σ.f a w S ρ κ) (l:List (Nat×AV)) (hl:∀p,p∈l->dA p.2=true∧∃L,conv (aA σ.h) 8 [] false (look σ.s p.1)=some (p.2,L)) :
  ∃S',(∀b,S b->S' b)∧Pt (keepE S' w) C1 ⟨l,[]⟩ a w S':=by
 let S':Nat->Prop:=λb=>S b∨∃n,(σ.f.h n).isSome∧ρ n=some b
 have Z:=@OK.back I _ _ _ _ _ _ _ O _ F;have ha:@OK I C (⟨σ.s,[]⟩:St).f a w S ρ κ:=@OK.less I C a w S ρ κ σ.f (⟨σ.s,[]⟩:St).f F (λt=>.inl rfl) (λn b h=>by simp[St.f,aA] at h)
 obtain ⟨h1,h2⟩:=@OK.jump I (keepE S' w) C1 C ⟨σ.s,[]⟩ a w w S ρ κ O Y ha (λ_=>False) (Ar _) (λ_ _ _=>rfl) (λ_ h=>h.elim) ⟨rfl,rfl⟩ S' (λb H=>by
     rcases H with h|⟨n,h,e⟩
     . exact F.hok.dom b h
     . exact F.hok.lt h e) (λb h=>.inl (Z.S0 b h)) (λb H=>by
     rcases H with h|⟨n,h,e⟩
     . rcases Z.Snew b h with g|g|g
       . exact .inl g
       . exact .inr g
       . exact(Y b g).elim
     . rcases Z.mine n b h e with g|g
       . exact .inr g
       . exact(Y b g).elim) (λb _ n hn=>by simp[St.f,aA] at hn) nC (λp U=>by cases U) l (λp U=>.inr (by
     obtain⟨hc,L,J⟩:=hl p U;have hx:=F.slots p.1
     letI:=I
     have h3:=(lJ F.hok (S':=λ_=>True) (λ_ _=>trivial) (E:=[]) (ρ':=ρ) (κ':=κ) (h':=σ.f.h) (λj n hj=>by simp at hj) 8 false _ _ _ _ J (λ_ _ _ _=>trivial) hx).2.2;have hs:=lJ F.hok (S':=S') (λb h=>Or.inl h) (E:=[]) (ρ':=ρ) (κ':=κ) (h':=σ.f.h) (λj n hj=>by simp at hj) 8 false _ _ _ _ J (λn hn y hy=>Or.inr ⟨n,(h3 n hn).2,hy⟩) hx;exact(hs.1 rfl).closed hc))
 exact⟨S',λb h=>.inl h,Pt.of_ok Y (λp U=>by cases U) h2 h1⟩
theorem Pt.closeAll (h:Pt I C1 σ a w S) (l:List (Nat×AV)) (Z:∀p,p∈l->dA p.2=true∧∃L,conv (aA σ.h) 8 [] false (look σ.s p.1)=some (p.2,L)) :
  ∃J S',Past S w S' w∧Pt J C1 ⟨l,[]⟩ a w S':=by
 obtain⟨U,hr,C,ρ,κ,hb,Y,ha,F,H⟩:=h;obtain⟨S',O,h2⟩:=OK.closeAll F U H l Z;exact⟨_,S',⟨O,λ_ _=>rfl,Ar _⟩,h2⟩
theorem aHr [Envs] {op:Op}{t:Nat}{args:List Operand} (h:comp P op=some (.call (.tmp t) args [])):∃c:Call,op=.call c∧c.callee=.value (.tmp t)∧args=c.args.toList:=by
 cases op
 case call c =>
  simp only[comp] at h;split at h
  .exact(vU h).elim
  .rename_i g F;split at h
   .split at h<;>simp at h
   .simp only[Ad,AOp.call.injEq,reduceCtorEq,false_and] at h
  .rename_i g _ F;simp only[Ad,AOp.call.injEq,and_true] at h;exact⟨c,rfl,by rw[F,h.1],h.2.symm⟩
  .cases h
 all_goals(unfold comp at h;repeat' split at h)
 all_goals first|contradiction|(simp at h;done)|(simp[AY] at h;done)
theorem aKD [Envs] {C:Ctx}{ρ:Name->Option Nat}{κ:Name->Nat}{ops:Array Oper}{σ:FSt}{o:Oper}{ao:aI}{f:FuncId}{t:Nat}{cs:List AV}{args:List Operand}{bor:List Nat} (hc:nG P C.nt ops o=some ao.bare) (O:ao.op=.call (.tmp t) args bor) (U:OK C σ a w S ρ κ) (ht:σ.s t=.fn f cs) (hb:iO P f)
  {F:Act->World->Prop}{Q:Exit->Act->World->Prop} (h:∀vs:Array Value,cs.length=vs.size->(∀j,j<cs.length->RV S w ρ κ σ.h (cs.getD j .junk) (vs.getD j undef))->Calls P f ((args.map a.eval).toArray++vs) w λe w'=>∃u,e=.returned u∧F (a.put ao.dst u) w'):o.wp P a w F Q:=by
 obtain⟨h1,h2,_,_⟩:=iI hc;rw[O] at h1;obtain⟨c,Y,H,rfl⟩:=aHr h1;obtain⟨fn,b,g1,g2,g3⟩:=hb;have hf:=U.slots t;rw[ht] at hf;obtain⟨vs,Z,hl,ha⟩:=aBs hf;have L:a.eval (.tmp t)=.func (.func f) #[] vs:=Z
 have J:(execOp a.eval o).run P w=.ok (.enter f (c.args.map a.eval++vs)) w:=by
  simp[execOp,Y,resolve,H,L,Deferred.ofValue,invoke,callFunc,g1,g2,g3]
 have e:c.args.map a.eval=(c.args.toList.map a.eval).toArray:=by cases c.args;simp
 unfold Oper.wp;rw[J];simp only[Oper.upon];have h':=h vs hl ha;rw[e];refine h'.mono ?_;rintro e' w' ⟨u,rfl,hn⟩;rw[h2];exact hn
theorem Pt.rgcallF (hp:Pt I C1 σ a w S) (he:C1.nt=nt) {f:FuncId}{t:Nat}{argl:List Operand}{ys cs:List AV}{bor:List Nat}{d:Nat}{r:List aI} (hb:iO P f) (ht:look σ.s t=.fn f cs) (hc:pI cs=true) (hl:argl.length=ys.length) (hf:∀i,i<argl.length->evO (look σ.s) (argl.getD i (.tmp 0))=ys.getD i .junk) (ha:∀i,i<argl.length->dA (ys.getD i .junk)=true)
  (h:∀vs:Array Value,vs.size=(ys++cs).length->(∀j,j<(ys++cs).length->RC S w ((ys++cs).getD j .junk) (vs.getD j undef))->Calls P f vs w λe w'=>∃u,e=.returned u∧RgL P nt r Q (a.put (some d) u) w') :
  RgL P nt (⟨some d,.call (.tmp t) argl bor,none⟩::r) Q a w:=by
 obtain⟨hM,hr,C,ρ,κ,hn,hk,hm,hd,U⟩:=hp;have F:C.nt=nt:=hd.nt.trans he
 have Z:∀i,i<argl.length->RC S w (ys.getD i .junk) (a.eval (argl.getD i (.tmp 0))):=λi hi=>by
  have:=@OK.ev I C σ.f a w S ρ κ U (argl.getD i (.tmp 0));rw[show evO σ.f.s (argl.getD i (.tmp 0))=ys.getD i .junk from hf i hi] at this;exact this.closed (ha i hi)
 refine RgL.op rfl λop ops H=>?_;refine @aKD P a w S I C ρ κ ops σ.f op _ f t cs argl bor (by rw[F];exact H) rfl U ht hb _ _ λvs hg hh=>?_;have Y:((argl.map a.eval).toArray).size=ys.length:=by simp[hl]
 refine h _ (by simp[hl,hg]) λj hj=>?_;by_cases L:j<ys.length
 .have e1:(ys++cs).getD j .junk=ys.getD j .junk:=by simp[BB L]
  have e2:((argl.map a.eval).toArray++vs).getD j undef=a.eval (argl.getD j (.tmp 0)):=by
   have O:j<argl.length:=by omega
   simp[Cz,O]
  rw[e1,e2];exact Z j (by omega)
 .have J:j-ys.length<cs.length:=by rw[AQ] at hj;omega
  have e1:(ys++cs).getD j .junk=cs.getD (j-ys.length) .junk:=by simp[Bi (Nat.le_of_not_lt L)]
  have e2:((argl.map a.eval).toArray++vs).getD j undef=vs.getD (j-ys.length) undef:=by
   rw[Array.getD_eq_getD_getElem?,Array.getD_eq_getD_getElem?,Array.getElem?_append_right (by rw[Y];omega),Y]
  rw[e1,e2];exact(hh _ J).closed (kH hc J)
theorem Pt.adopt1 (h:Pt I C1 σ a w S) {n1:Name}{F:Option Nat}{Z Y:Nat}{J:List (List AV)}{v1:Value} (o1:Own (λ_=>False) w F Z Y J v1)
  (U:∀b,F=some b->C1.w0.heap.size<=b∧S b∧¬C1.S0 b) {t:Nat} (ht:a.tmps.getD t undef=v1)
  (L:List (Nat×AV)) (hs:∀p,p∈L->(p.2=look σ.s p.1∧flat p.2=true)∨RC (λb=>S b∧F≠some b) w p.2 (a.tmps.getD p.1 undef))
  (hg:bT n1 ⟨L,σ.h⟩=true) :
  Pt (keepE (λb=>S b∧F≠some b) w) C1 ⟨(t,.loc n1 0 J.length)::L,(n1,.arr Y J false)::σ.h⟩ a w (λb=>S b∧F≠some b):=by
 have O:=h.base;have hc:=h.dom;have hf:=h.sub;obtain⟨hM,hr,C,ρ,κ,ho,hh,hj,hl,he⟩:=h
 have hd:∀b,S b->∀n,(σ.f.h n).isSome->ρ n≠some b:=λb H n hn hx=>by
  obtain⟨b',ha⟩:=AA.1 hn;exact @OK.noS I _ _ _ _ _ _ _ he _ _ ha (hr _ (dB ha)).2 _ hx H
 obtain ⟨h1,h2⟩:=OK.jump I (keepE (λb=>S b∧F≠some b) w) hl hM he (λ_=>False) (Ar _) (λ_ _ _=>rfl) (λ_ h=>h.elim) ⟨rfl,rfl⟩ (S':=λb=>S b∧F≠some b) (λb H=>hc b H.1)
  (λb H=>⟨hf b H,λe=>(U b e).2.2 H⟩) (λb H=>O b H.1) (λb H=>hd b H.1) nC hr L hs
 have H:=@OK.back (keepE (λb=>S b∧F≠some b) w) _ _ _ _ _ _ _ h2 _ h1;have a1:=@OK.adopt0 a w (λb=>S b∧F≠some b) (keepE (λb=>S b∧F≠some b) w) C1 ρ κ ⟨L,σ.h⟩ H n1 hg F Z Y J v1 (o1.mono (λb e H=>H.2 e) λ_ _=>rfl) (λb e=>⟨λm hm=>hd b (U b e).2.1 m hm,.inl (U b e).1⟩)
 have hx:@RV (λb=>S b∧F≠some b) w (λm=>if m=n1 then F else ρ m) (λm=>if m=n1 then Z else κ m) (⟨L,(n1,.arr Y J false)::σ.h⟩:St).f.h (.loc n1 0 J.length) (a.tmps.getD t undef):=by
  rw[ht];exact .loc _ _ _ _ (wY.of_own o1 (by show(if n1=n1 then F else _)=F;rw[AP rfl]) (by show(if n1=n1 then Z else _)=Z;rw[AP rfl]) (by simp[St.f,aA]))
 have a3:=@OK.know (keepE (λb=>S b∧F≠some b) w) C1 a w _ _ _ _ a1 t _ hx
 have e:(⟨upd (⟨L,(n1,.arr Y J false)::σ.h⟩:St).f.s (some t) (.loc n1 0 J.length),(⟨L,(n1,.arr Y J false)::σ.h⟩:St).f.h⟩:FSt)=(⟨(t,.loc n1 0 J.length)::L,(n1,.arr Y J false)::σ.h⟩:St).f:=by
  simp only[St.f,FSt.mk.injEq,and_true];refine funext λu=>?_;by_cases hu:u=t
  .subst hu;simp[upd,look]
  .have hk:¬t=u:=λe=>hu e.symm;simp[upd,look,hu]
 rw[e] at a3
 exact Pt.of_ok hM (λp hp=>by
   rcases Ap.1 hp with rfl|hp
   . exact⟨o1.fl,rfl⟩
   . exact hr p hp) (Later.refl C1) a3
variable {dr:Nat->Array Oper->Option (List Nat)}
theorem Pt.goC (hp:Pt I C1 σ a w S) (hc:@fV I P dr) (hh:C1.nt=nt) (n:Nat) (c:aD) {E:rD->St->Prop} (l:List (Nat×AV)) (hl:∀p,p∈l->dA p.2=true∧∃L,conv (aA τ.h) 8 [] false (look τ.s p.1)=some (p.2,L))
  (hv:∀C:Ctx,C.nt=nt->@aDx I P C dr n c (fun σ'=>LeL σ' τ) E σ) (hE:∀i σ,¬E (.exit i) σ) (hR:∀C a w,Later C1 C->@cK I C (E .ret) a w->Q .ret a w)
  (hN:∀I' a' w' S',Past S w S' w'->Pt I' C1 ⟨l,[]⟩ a' w' S'->At P nt dr (kU n c) Q a' w'):At P nt dr c Q a w:=by
 have hj:=hp;obtain⟨hM,hr,C,ρ,κ,hk,ha,he,J,Y⟩:=hp;have F:C.nt=nt:=J.nt.trans hh
 have hf:∀b,S b->b<w.heap.size∧¬C.Mut b:=λb hb=>⟨hj.dom b hb,λhm=>by
   obtain⟨n,hn,hx⟩:=he b hm;obtain⟨b',O⟩:=AA.1 hn;exact @OK.noS I _ _ _ _ _ _ _ Y _ _ O (hr _ (dB O)).2 _ hx hb⟩
 refine @At.upto P nt dr Q I C hc F (fun σ'=>LeL σ' τ) E (λi a w U=>?_) (λa w U=>hR C a w J U) n c σ a w S ρ κ Y (hv C F) λa' w' U=>?_
 .obtain⟨σ',_,_,_,h,_⟩:=U;exact(hE i σ' h).elim
 .obtain⟨σ',S',ρ',κ',hd,Z⟩:=U;have H:=@OK.le I _ _ _ _ _ _ _ _ Z hd;obtain⟨S2,h1,h2⟩:=OK.closeAll J hM H l hl;exact hN _ a' w' S2 ((Pt.later hk ha hf H).trans ⟨h1,λ_ _=>rfl,Ar _⟩) h2
end
section
variable {P:Program}{nt:Nat}{Q:Exit->Act->World->Prop}{a:Act}{w:World}
variable {I:Envs}{C1:Ctx}{σ τ:St}{S:Nat->Prop}
theorem OK.closeSome {C:Ctx}{ρ:Name->Option Nat}{κ:Name->Nat} (Z:Later C1 C) (hM:∀b,¬C1.Mut b) (F:@OK I C σ.f a w S ρ κ) (O:List (Name×Blk)) (H:∀p,p∈O->aA σ.h p.1=some p.2∧iV p.2∧p.2.fz=false) (l:List (Nat×AV))
  (hl:∀p,p∈l->(p.2=look σ.s p.1∧flat p.2=true)∨(dA p.2=true∧∃L,conv (aA σ.h) 8 [] false (look σ.s p.1)=some (p.2,L)∧∀n,n∈L->aA O n=none)) :
  ∃S',(∀b,S b->S' b)∧Pt (keepE S' w) C1 ⟨l,O⟩ a w S':=by
 let S':Nat->Prop:=λb=>S b∨∃n,(σ.f.h n).isSome∧aA O n=none∧ρ n=some b
 have hb:=@OK.back I _ _ _ _ _ _ _ Z _ F;have ha:∀n b,aA O n=some b->aA σ.h n=some b:=λn b h=>(H _ (pQ _ _ _ h)).1;have hd:@OK I C (⟨σ.s,O⟩:St).f a w S ρ κ:=@OK.less I C a w S ρ κ σ.f (⟨σ.s,O⟩:St).f F (λt=>.inl rfl) (λn b h=>ha n b h)
 obtain ⟨h1,h2⟩:=@OK.jump I (keepE S' w) C1 C ⟨σ.s,O⟩ a w w S ρ κ Z hM hd (λ_=>False) (Ar _) (λ_ _ _=>rfl) (λ_ h=>h.elim) ⟨rfl,rfl⟩ S' (λb J=>by
     rcases J with h|⟨n,h,_,e⟩
     . exact F.hok.dom b h
     . exact F.hok.lt h e) (λb h=>.inl (hb.S0 b h)) (λb J=>by
     rcases J with h|⟨n,h,_,e⟩
     . rcases hb.Snew b h with g|g|g
       . exact .inl g
       . exact .inr g
       . exact(hM b g).elim
     . rcases hb.mine n b h e with g|g
       . exact .inr g
       . exact(hM b g).elim) (λb J n hn hx=>by
     obtain⟨b',U⟩:=AA.1 hn;have Y:aA O n=some b':=U;have hs:=H _ (pQ _ _ _ Y);rcases J with h|⟨m,h,g,e⟩
     . exact @OK.noS I _ _ _ _ _ _ _ F _ _ hs.1 hs.2.2 _ hx h
     . have:=F.hok.inj m n b h (by rw[show σ.f.h n=aA σ.h n from rfl,hs.1];rfl) e hx
       rw[this,Y] at g;cases g) nC (λp hp=>(H p hp).2) l (λp hp=>by
     rcases hl p hp with h|⟨hc,L,hcv,hLn⟩
     . exact .inl h
     . right
       have hx:=F.slots p.1
       letI:=I
       have h3:=(lJ F.hok (S':=λ_=>True) (λ_ _=>trivial) (E:=[]) (ρ':=ρ) (κ':=κ) (h':=σ.f.h) (λj n hj=>by simp at hj) 8 false _ _ _ _ hcv (λ_ _ _ _=>trivial) hx).2.2;have hs:=lJ F.hok (S':=S') (λb h=>Or.inl h) (E:=[]) (ρ':=ρ) (κ':=κ) (h':=σ.f.h) (λj n hj=>by simp at hj) 8 false _ _ _ _ hcv (λn hn y hy=>Or.inr ⟨n,(h3 n hn).2,hLn n hn,hy⟩) hx;exact(hs.1 rfl).closed hc)
 exact⟨S',λb h=>.inl h,Pt.of_ok hM (λp hp=>(H p hp).2) h2 h1⟩
variable {dr:Nat->Array Oper->Option (List Nat)}
theorem Pt.goS (hp:Pt I C1 σ a w S) (hd:@fV I P dr) (hj:C1.nt=nt) (n:Nat) (c:aD) {E:rD->St->Prop} (hk:List (Name×Blk)) (ha:∀p,p∈hk->aA τ.h p.1=some p.2∧iV p.2∧p.2.fz=false) (l:List (Nat×AV))
  (hl:∀p,p∈l->(p.2=look τ.s p.1∧flat p.2=true)∨(dA p.2=true∧∃L,conv (aA τ.h) 8 [] false (look τ.s p.1)=some (p.2,L)∧∀n,n∈L->aA hk n=none))
  (hv:∀C:Ctx,C.nt=nt->@aDx I P C dr n c (fun σ'=>LeL σ' τ) E σ) (hE:∀i σ,¬E (.exit i) σ) (hR:∀C a w,Later C1 C->@cK I C (E .ret) a w->Q .ret a w)
  (hN:∀I' a' w' S',Past S w S' w'->Pt I' C1 ⟨l,hk⟩ a' w' S'->At P nt dr (kU n c) Q a' w'):At P nt dr c Q a w:=by
 have ho:=hp;obtain⟨hM,hr,C,ρ,κ,hq,hc,hf,J,Y⟩:=hp;have F:C.nt=nt:=J.nt.trans hj
 have hh:∀b,S b->b<w.heap.size∧¬C.Mut b:=λb hb=>⟨ho.dom b hb,λhm=>by
   obtain⟨n,hn,hx⟩:=hf b hm;obtain⟨b',O⟩:=AA.1 hn;exact @OK.noS I _ _ _ _ _ _ _ Y _ _ O (hr _ (dB O)).2 _ hx hb⟩
 refine @At.upto P nt dr Q I C hd F (fun σ'=>LeL σ' τ) E (λi a w U=>?_) (λa w U=>hR C a w J U) n c σ a w S ρ κ Y (hv C F) λa' w' U=>?_
 .obtain⟨σ',_,_,_,h,_⟩:=U;exact(hE i σ' h).elim
 .obtain⟨σ',S',ρ',κ',he,Z⟩:=U;have H:=@OK.le I _ _ _ _ _ _ _ _ Z he;obtain⟨S2,h1,h2⟩:=OK.closeSome J hM H hk ha l hl;exact hN _ a' w' S2 ((Pt.later hq hc hh H).trans ⟨h1,λ_ _=>rfl,Ar _⟩) h2
end
section
section
variable [I:Envs]
variable {P:Program}{nt:Nat}{Q:Exit->Act->World->Prop}{a:Act}{w:World}
def aBy (P:Program) (n0:Nat) (OS:List (List Nat)) (n1:Nat) (OS1:List (List Nat)) (nt:Nat) (ops:Array Oper):Option (List Nat):=
 if(ops.size==n0&&!(wV ops==OS))||(ops.size==n1&&!(wV ops==OS1)) then none else aW P nt ops
theorem rP (O:P.follows .mixedOrders=true) (Y:Nat) (L:List (List Nat)) (n1:Nat) (J:List (List Nat)):fV P (aBy P Y L n1 J):=by
 intro C U ops F fl K Q σ a w S ρ κ H;refine bB O C U ops F fl K Q σ a w S ρ κ ?_;unfold aBy at H;split at H
 .cases H
 .exact H
theorem aN4 {O n1:Nat}{L H:List (List Nat)} (ops:Array Oper) (fl:List Nat) (J:aBy P O L n1 H nt ops=some fl) (U:ops.size=O):wV ops=L:=by
 unfold aBy at J;split at J
 .cases J
 .rename_i F;simp only[Cs,Av,not_or,not_and,BN,BA,Bool.not_eq_false,AC,ne_eq,Dz] at F;simpa using F.1 U
theorem aN3 {U n1:Nat}{L F:List (List Nat)} (ops:Array Oper) (fl:List Nat) (J:aBy P U L n1 F nt ops=some fl) (O:ops.size=n1):wV ops=F:=by
 unfold aBy at J;split at J
 .cases J
 .rename_i H;simp only[Cs,Av,not_or,not_and,BN,BA,Bool.not_eq_false,AC,ne_eq,Dz] at H;simpa using H.2 O
theorem At.rgsD {dr:Nat->Array Oper->Option (List Nat)} (hm:P.follows .mixedOrders=true) {n0:Nat}{Y:List (List Nat)}{F:List aI}{out:List Nat}{f0:Nat}{fl:List Nat} (hn:F.length=n0) (hL:(Y.all λL=>L.all λi=>decide (i<n0))=true)
  (hD:∀(ops:Array Oper) (fl:List Nat),dr nt ops=some fl->ops.size=n0->wV ops=Y) (h:∀L,L∈Y->RgL P nt (L.map λi=>F.getD i default) Q a {w with drawn:=w.drawn+1}):At P nt dr (.region F out (f0::fl)) Q a w:=by
 intro c H hg;cases c
 case region id ops draw =>
  simp only[bI,aD.bare] at H;split at H
  .rename_i hf J;cases ho:aA6 P nt ops ops.toList with
   |none=>rw[ho] at H;cases H
   | some l =>
    rw[ho] at H;simp only[AU,Ad,aD.region.injEq,Ci] at H;obtain⟨hl,ha⟩:=H;subst hl;subst ha;cases draw with
    |false=>simp at J
    | true =>
     have hd:dr nt ops=some (f0::fl):=by simpa using J
     obtain⟨g1,g2⟩:=jQ ho;have he:ops.size=F.length:=by simpa using g1
     have Z:wV ops=Y:=hD ops _ hd (by omega);refine wp_region_draw λt=>?_;rw[hm];have O:=aDt ops t;rw[Z] at O
     have U:∀i,i∈Region.schedule true ops t->i<F.length:=λi hi=>by
      have:=Az.1 (Az.1 hL _ O) i hi;rw[hn];simpa using this
     refine h _ O ops _ (by simp) λj ao hj=>?_;generalize Region.schedule true ops t=L at U hj;simp only[Cu,Cq] at hj;obtain⟨i,hi,rfl⟩:=hj;have hb:i<F.length:=U i (BV hi);obtain⟨o,q1,q2⟩:=g2 i (F.getD i default) (by simp[hb]);exact⟨i,o,hi,by simpa using q1,q2⟩
  .cases H
 all_goals(simp only[bI,aD.bare] at H;first|(cases H;done)|(split at H<;>simp at H)|(simp at H))
end
end
end Go.Vs
