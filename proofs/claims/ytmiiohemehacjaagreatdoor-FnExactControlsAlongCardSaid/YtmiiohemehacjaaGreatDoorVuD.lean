/- Decks in memory of their own: what copies and the program leave, and what marks write. -/
import Derived.Test.YtmiiohemehacjaaGreatDoorVuA
set_option linter.all false
set_option maxHeartbeats 8000000
namespace Go.Vs
section
variable {P:Program}
theorem RC.flatW [Envs] {S S':Nat->Prop}{w w':World}{x:AV}{v:Value} (h:RC S w x v) (F:Vs.flat x=true):RC S' w' x v:=
 RC.mono (S:=λ_=>False) (w:=w) (λ_ h=>h.elim) (λ_ h=>h.elim) (RC.flat h F)
theorem RV.flatW [Envs] {S S':Nat->Prop}{w w':World}{ρ:Name->Option Nat}{κ:Name->Nat}{F:Name->Option Blk}{x:AV}{v:Value} (h:RV S w ρ κ F x v) (H:Vs.flat x=true):RV S' w' ρ κ F x v:=
 (show RV (λ_=>False) w ρ κ F x v from RV.flat h H).mono (λ_ h=>h.elim) (λ_ h=>h.elim) λm _=>dY.refl _ _ _ _
theorem OK.namesLt [Envs] {C:Ctx}{σ:FSt}{a:Act}{w:World}{S:Nat->Prop}{ρ:Name->Option Nat}{κ:Name->Nat} (F:OK C σ a w S ρ κ):∀n x,(σ.h n).isSome->ρ n=some x->x<w.heap.size:=λn x H J=>F.hok.lt H J
theorem OK.put1 [Envs] {C:Ctx}{σ:St}{a:Act}{w:World}{S:Nat->Prop}{ρ:Name->Option Nat}{κ:Name->Nat} (H:OK C σ.f a w S ρ κ) {d:Nat} (J:d<C.nt) (u:Value):OK C (⟨(d,.v u)::σ.s,σ.h⟩:St).f (a.put (some d) u) w S ρ κ:=by
 have:=H.put (x:=.v u) (v:=u) (d:=some d) (.clo (.v u)) (λd' F=>by
   obtain rfl:=Option.some.inj F;exact J)
 have e:(⟨(d,.v u)::σ.s,σ.h⟩:St).f=⟨upd σ.f.s (some d) (.v u),σ.f.h⟩:=by
  simp[St.f,look,upd,eq_comm]
 rw[e];exact this
theorem OK.jump (I I':Envs) {C1 C:Ctx}{σ:St}{a:Act}{w w':World}{S:Nat->Prop}{ρ:Name->Option Nat}{κ:Name->Nat} (hl:Later C1 C) (hy:∀b,¬C1.Mut b) (Y:@OK I C σ.f a w S ρ κ)
  (D:Nat->Prop) (hr:w.heap.size<=w'.heap.size) (hw:∀b,b<w.heap.size->¬D b->w'.heap[b]? = w.heap[b]?) (hD:∀b,D b->C1.w0.heap.size<=b∧∀n,(σ.f.h n).isSome->ρ n≠some b)
  (ho:w'.os=w.os∧w'.output=w.output) {S':Nat->Prop} (hS:∀b,S' b->b<w'.heap.size) (h0:∀b,C1.S0 b->S' b) (h1:∀b,S' b->C1.S0 b∨C1.w0.heap.size<=b)
  (hN:∀b,S' b->∀n,(σ.f.h n).isSome->ρ n≠some b) (he:@Env I' S' w') (hh:∀p,p∈σ.h->iD p.2∧p.2.fz=false) (s':List (Nat×AV))
  (hs:∀p,p∈s'->(p.2=look σ.s p.1∧flat p.2=true)∨RC S' w' p.2 (a.tmps.getD p.1 undef)) :
  @OK I' (C.anew w' S' σ.f.h ρ) (⟨s',σ.h⟩:St).f a w' S' ρ κ∧Later C1 (C.anew w' S' σ.f.h ρ):=by
 have H:=@OK.back I _ _ _ _ _ _ _ hl _ Y;have hq:∀n x,(σ.f.h n).isSome->ρ n=some x->x<w.heap.size:=@OK.namesLt I _ _ _ _ _ _ _ Y;have U:∀n x,(σ.f.h n).isSome->ρ n=some x->w'.heap[x]? = w.heap[x]?:=λn x hn J=>hw x (hq n x hn J) λhd=>(hD x hd).2 n hn J
 have hp:∀(s:List (Nat×AV)) t,look s t=.junk∨(t,look s t)∈s:=by
  intro s
  induction s with
  |nil=>intro t;left;rfl
  | cons p r ih =>
   grind [look]
 obtain⟨F,g2,g3,⟨j1,j2,j3,j4⟩,g5,g6,O,g8,g9,ha,hv⟩:=H;obtain⟨o1,o2,o3,⟨k1,k2,k3,k4⟩,o5,o6,o7,o8,o9,h3,ht⟩:=Y;constructor
 .refine⟨o1,o2,λt=>?_,⟨λn b H=>?_,k2,hS,he⟩,Nat.le_refl _,λ_ _ _=>rfl,λn x h1 h2=>.inr ⟨n,h1,h2⟩,λ_ h=>h,λb H=>.inl H,⟨rfl,rfl⟩,ht⟩
  .show RV S' w' _ _ _ (look s' t) _
   rcases hp s' t with h|h
   .rw[h];exact .junk _
   .rcases hs _ h with⟨e,hf⟩|e
    .have h1:=o3 t;have e':look s' t=look σ.s t:=e;have hc:flat (look s' t)=true:=hf;rw[e'] at hc⊢;exact RV.flatW h1 hc
    .exact .clo e
  .have L:σ.f.h n=some b:=H;have hk:=k1 n b L;have hn:∀x,ρ n=some x->¬S' x:=λx J hs=>hN x hs n (by rw[L];rfl) J;have hu:∀x,ρ n=some x->w'.heap[x]? = w.heap[x]?:=λx J=>U n x (by rw[L];rfl) J;obtain⟨hf,hz⟩:=hh _ (iM L);cases b with
   | var c z =>
    obtain⟨x,cs,T,fr,F,g2,g3,g4,hg,g5,g6,O⟩:=hk;have Z:z=false:=hz;subst Z;exact⟨x,cs,T,fr,F,by rw[hu x F];exact g2,g3,λ_ J=>hn x F J,λh=>(by cases h),g5,g6,λj hj=>⟨(O j hj).1,RV.flatW (O j hj).2 (cZ hf)⟩⟩
   | arr k l z =>
    have Z:z=false:=hz;subst Z;obtain⟨g0,⟨F,g2⟩|⟨x,cs,T,fr,F,g2,g3,g4,hg,g5,g6,O⟩⟩:=hk
    .exact⟨g0,.inl ⟨F,g2⟩⟩
    .refine⟨g0,.inr ⟨x,cs,T,fr,F,by rw[hu x F];exact g2,g3,λ_ J=>hn x F J,λh=>(by cases h),g5,g6,λi j hi hj=>⟨(O i j hi hj).1,RC.flatW (O i j hi hj).2 (cZ (hf _ ?_))⟩⟩⟩;rw[List.getD_eq_getElem?_getD,List.getElem?_eq_getElem hi];exact List.getElem_mem _
 .refine⟨hl.nt,Nat.le_trans g5 hr,λb H hm=>?_,λb H=>?_,h0,λb H=>(h1 b H).imp_right .inl,⟨ho.1.trans ha.1,ho.2.trans ha.2⟩,hl.base⟩
  .show w'.heap[b]? = _
   all_goals grind
  .obtain⟨n,q1,q2⟩:=H;exact O n b q1 q2
structure Pt (I:Envs) (C1:Ctx) (σ:St) (a:Act) (w:World) (S:Nat->Prop):Prop where
 nomut:∀b,¬C1.Mut b
 rows:∀p,p∈σ.h->iD p.2∧p.2.fz=false
 ex:∃(C:Ctx) (ρ:Name->Option Nat) (κ:Name->Nat),C.w0=w∧C.S0=S∧(∀b,C.Mut b->∃n,(σ.f.h n).isSome∧ρ n=some b)∧Later C1 C∧@OK I C σ.f a w S ρ κ
variable {I:Envs}{C1:Ctx}{σ τ:St}{a:Act}{w:World}{S:Nat->Prop}
theorem Pt.of_ok {C:Ctx}{ρ:Name->Option Nat}{κ:Name->Nat} (H:∀b,¬C1.Mut b) (L:∀p,p∈σ.h->iD p.2∧p.2.fz=false) (J:Later C1 C) (F:@OK I C σ.f a w S ρ κ):Pt I C1 σ a w S:=
 ⟨H,L,C.anew w S σ.f.h ρ,ρ,κ,rfl,rfl,λ_ h=>h,J.trans (@OK.later I _ _ _ _ _ _ _ F),@OK.anew I _ _ _ _ _ _ _ F⟩
theorem Pt.dom (h:Pt I C1 σ a w S):∀b,S b->b<w.heap.size:=by
 obtain⟨_,_,C,ρ,κ,_,_,_,_,F⟩:=h;exact F.hok.dom
theorem Pt.env (h:Pt I C1 σ a w S):@Env I S w:=by
 obtain⟨_,_,C,ρ,κ,_,_,_,_,F⟩:=h;exact @HOK.env I _ _ _ _ _ (@OK.hok I _ _ _ _ _ _ _ F)
theorem Pt.base (h:Pt I C1 σ a w S):∀b,S b->C1.S0 b∨C1.w0.heap.size<=b:=by
 obtain⟨L,_,C,ρ,κ,_,_,_,J,F⟩:=h;intro b H;rcases(@OK.back I _ _ _ _ _ _ _ J _ F).Snew b H with h|h|h
 all_goals grind
theorem Pt.sub (h:Pt I C1 σ a w S):∀b,C1.S0 b->S b:=by
 obtain⟨J,_,C,ρ,κ,_,_,_,H,F⟩:=h;exact(@OK.back I _ _ _ _ _ _ _ H _ F).S0
theorem Pt.size (h:Pt I C1 σ a w S):C1.w0.heap.size<=w.heap.size:=by
 obtain⟨J,_,C,ρ,κ,_,_,_,H,F⟩:=h;exact(@OK.back I _ _ _ _ _ _ _ H _ F).size
theorem Pt.val (h:Pt I C1 σ a w S) {t:Nat} (H:fO (look σ.s t)=true):RC S w (look σ.s t) (a.tmps.getD t undef):=by
 obtain⟨J,_,C,ρ,κ,_,_,_,L,F⟩:=h;exact RV.closed (@OK.slots I _ _ _ _ _ _ _ F t) H
theorem Pt.valv (h:Pt I C1 σ a w S) {t:Nat}{v:Value} (H:look σ.s t=.v v):a.tmps.getD t undef=v:=by
 obtain⟨J,_,C,ρ,κ,_,_,_,L,F⟩:=h;have:=@OK.slots I _ _ _ _ _ _ _ F t;rw[show σ.f.s t=.v v from H] at this;exact bL this
theorem Pt.jump (h:Pt I C1 σ a w S) {w':World} (D:Nat->Prop) (ha:w.heap.size<=w'.heap.size) (hw:∀b,b<w.heap.size->¬D b->w'.heap[b]? = w.heap[b]?) (hD:∀b,D b->C1.w0.heap.size<=b∧S b)
  (ho:w'.os=w.os∧w'.output=w.output) {S':Nat->Prop} (Y:∀b,S' b->b<w'.heap.size∧(S b∨w.heap.size<=b)) (h0:∀b,C1.S0 b->S' b) (s':List (Nat×AV))
  (hs:∀p,p∈s'->(p.2=look σ.s p.1∧flat p.2=true)∨RC S' w' p.2 (a.tmps.getD p.1 undef)):Pt (keepE S' w') C1 ⟨s',σ.h⟩ a w' S':=by
 have H:=h.base;have hz:=h.size;obtain⟨hM,Z,C,ρ,κ,hf,hc,he,hl,F⟩:=h
 have L:∀b,S b->∀n,(σ.f.h n).isSome->ρ n≠some b:=λb H n O U=>by
  obtain⟨b',J⟩:=Option.isSome_iff_exists.1 O;exact @OK.noS I _ _ _ _ _ _ _ F _ _ J (Z _ (iM J)).2 _ U H
 obtain ⟨h1,h2⟩:=OK.jump I (keepE S' w') hl hM F D ha hw (λb hd=>⟨(hD b hd).1,L b (hD b hd).2⟩) ho (S':=S') (λb H=>(Y b H).1) h0 (λb h=>by
   rcases(Y b h).2 with h|h
   . exact H b h
   . exact .inr (Nat.le_trans hz h)) (λb h n O U=>by
   rcases(Y b h).2 with h|h
   . exact L b h n O U
   . have:=F.hok.lt O U;omega) aBd Z s' hs
 exact⟨hM,Z,_,ρ,κ,rfl,rfl,λ_ h=>h,h2,h1⟩
theorem Pt.set (h:Pt I C1 σ a w S) (F:List (Nat×AV)) (J:∀p,p∈F->(p.2=look σ.s p.1∧flat p.2=true)∨RC S w p.2 (a.tmps.getD p.1 undef)):Pt (keepE S w) C1 ⟨F,σ.h⟩ a w S:=
 h.jump (λ_=>False) (Nat.le_refl _) (λ_ _ _=>rfl) (λ_ h=>h.elim) ⟨rfl,rfl⟩ (λb H=>⟨h.dom b H,.inl H⟩) h.sub F J
theorem Pt.put (h:Pt I C1 σ a w S) {d:Nat} (Y:d<C1.nt) (u:Value):Pt I C1 ⟨(d,.v u)::σ.s,σ.h⟩ (a.put (some d) u) w S:=by
 obtain⟨U,Z,C,ρ,κ,L,F,H,O,J⟩:=h;refine⟨U,Z,C,ρ,κ,L,F,H,O,?_⟩;exact @OK.put1 I _ _ _ _ _ _ _ J d (by rw[O.nt];exact Y) u
variable {nt:Nat}{dr:Nat->Array Oper->Option (List Nat)}{Q:Exit->Act->World->Prop}
structure Past (S:Nat->Prop) (w:World) (S':Nat->Prop) (w':World):Prop where
 sub:∀b,S b->S' b
 old:∀b,S b->w'.heap[b]? = w.heap[b]?
 size:w.heap.size<=w'.heap.size
theorem Past.refl (S:Nat->Prop) (w:World):Past S w S w:=⟨λ_ h=>h,λ_ _=>rfl,Nat.le_refl _⟩
theorem Past.trans {S' F:Nat->Prop}{w' H:World} (h:Past S w S' w') (h':Past S' w' F H):Past S w F H:=
 ⟨λb J=>h'.sub b (h.sub b J),λb J=>(h'.old b (h.sub b J)).trans (h.old b J),Nat.le_trans h.size h'.size⟩
theorem Past.rc {S':Nat->Prop}{w':World} (h:Past S w S' w') {D:Nat->Prop} (F:∀b,D b->S b) {x:AV}{v:Value} (J:RC D w x v):RC D w' x v:=
 letI:Envs:=⟨[]⟩
 J.mono (λ_ h=>h) λb H=>h.old b (F b H)
theorem Past.rcS {S':Nat->Prop}{w':World} (h:Past S w S' w') {x:AV}{v:Value} (H:RC S w x v):RC S' w' x v:=
 letI:Envs:=⟨[]⟩
 H.mono h.sub λb F=>h.old b F
theorem Pt.later {C:Ctx}{ρ:Name->Option Nat}{κ:Name->Nat}{S':Nat->Prop}{F:Act}{w':World} (O:C.w0=w) (H:C.S0=S) (J:∀b,S b->b<w.heap.size∧¬C.Mut b) (L:@OK I C τ.f F w' S' ρ κ):Past S w S' w':=by
 grind [OK,Past]
theorem Pt.go (hp:Pt I C1 σ a w S) (ha:iF P dr) (hf:C1.nt=nt) (n:Nat) (c:aF) {X:Prop}{E:uC->St->Prop} (hτ:∀p,p∈τ.h->iD p.2∧p.2.fz=false)
  (hv:∀C:Ctx,C.nt=nt->@aDp I P C dr n c (fun σ'=>LeL σ' τ∧X) E σ) (hE:∀i σ,¬E (.exit i) σ) (hR:∀C a w,Later C1 C->@bV I C (E .ret) a w->Q .ret a w)
  (hN:∀U w' S',Past S w S' w'->Pt I C1 τ U w' S'->X->At P nt dr (lG n c) Q U w'):At P nt dr c Q a w:=by
 have hh:=hp;obtain⟨hM,hr,C,ρ,κ,hj,Z,hd,hl,L⟩:=hp;have F:C.nt=nt:=hl.nt.trans hf
 have he:∀b,S b->b<w.heap.size∧¬C.Mut b:=λb hb=>⟨hh.dom b hb,λhm=>by
   obtain⟨n,hn,hx⟩:=hd b hm;obtain⟨b',J⟩:=Option.isSome_iff_exists.1 hn;exact @OK.noS I _ _ _ _ _ _ _ L _ _ J (hr _ (iM J)).2 _ hx hb⟩
 refine @At.upto P nt dr Q I C ha F _ E (λi a w Y=>?_) (λa w Y=>hR C a w hl Y) n c σ a w S ρ κ L (hv C F) λU w' Y=>?_
 .grind [bV]
 .obtain⟨σ',S',ρ',κ',⟨hc,hX⟩,O⟩:=Y;have H:=@OK.le I _ _ _ _ _ _ _ _ O hc;exact hN U w' S' (Pt.later hj Z he H) (Pt.of_ok hM hτ hl H) hX
theorem At.regionX [Envs] {P:Program}{C:Ctx}{a:Act}{w:World}{S:Nat->Prop}{ρ:Name->Option Nat}{κ:Name->Nat}{nt:Nat}{dr:Nat->Array Oper->Option (List Nat)}{Q:Exit->Act->World->Prop}{pre post:List aJ}{o:aJ}{out:List Nat}{σ:St} (hd:OK C σ.f a w S ρ κ) (hf:C.nt=nt) (hg:o.guard=none)
  (hv:vc P (fun σ1=>∀(a:Act) (w:World) (S:Nat->Prop) (ρ:Name->Option Nat) (κ:Name->Nat) (op:Oper) (ops:Array Oper),OK C σ1.f a w S ρ κ->nD P nt ops op=some o.bare->op.wp P a w (λa w=>∃Y:Envs,@aHs Y P nt post Q a w) Q) pre σ) :
  At P nt dr (.region (pre++o::post) out []) Q a w:=by
 intro c F hh;cases c
 case region id ops draw =>
  simp only[bE,aF.bare] at F;split at F
  .rename_i he Z;cases ho:aBR P nt ops ops.toList with
   |none=>rw[ho] at F;cases F
   | some l =>
    rw[ho] at F;simp only[Option.map_some,Option.some.injEq,aF.region.injEq,true_and] at F;obtain⟨hl,ha⟩:=F;subst hl;subst ha;cases draw with
    | true =>
     grind [zB]
    | false =>
     obtain⟨g1,g2⟩:=mD ho
     have hs:∀(j:Nat) (ao:aJ),(pre++o::post)[j]? = some ao->∃op,ops[j]? = some op∧nD P nt ops op=some ao.bare:=λj ao U=>by
      grind
     refine wp_region ?_
     have H:ops.size=pre.length+(post.length+1):=by
      grind
     rw[List.range_eq_range',H];refine lK (C:=C) (K:=_) (e:=pre.length) (fun σ1 a w S ρ κ hK J=>?_) pre 0 (by omega) (λj ao U=>?_) σ a w S ρ κ hv hd
     .obtain⟨op,h1,h2⟩:=hs pre.length o (by simp);obtain⟨_,_,_,h4⟩:=iO h2
      have hb:op.guard=none:=by
       grind
      rw[List.range'_succ,wpOps_cons];unfold wpOp;rw[h1];have:Region.wanted op (yielded ops a.tmps)=true:=by simp[Region.wanted,hb]
      simp only[this,if_true];refine .inl (Oper.wp_mono (λa' w' hr=>?_) (hK a w S ρ κ op ops J h2));obtain⟨Y,C',σ',S',ρ',κ',K',e1,e2,e3,e4⟩:=hr
      letI:=Y
      subst e1
      have:=lK (C:=C') (P:=P) (ops:=ops) (Q:=Q) (K:=K') (e:=pre.length+1+post.length) (m:=0) (fun σ2 a2 w2 S2 ρ2 κ2 hk L=>by
        simp only[List.range'_zero];exact e4 a2 w2 ⟨σ2,S2,ρ2,κ2,hk,L⟩) post (pre.length+1) rfl (λj ao U=>by
        obtain ⟨O,q1,q2⟩:=hs (pre.length+1+j) ao (by
          rw[List.getElem?_append_right (by omega),show pre.length+1+j-pre.length=j+1 by omega];simpa using U)
        exact⟨O,q1,q2⟩) σ' a' w' S' ρ' κ' e3 e2
      simpa using this
     .obtain⟨O,q1,q2⟩:=hs j ao (by
        have:j<pre.length:=by
          grind
        rw[List.getElem?_append_left this];exact U)
      all_goals grind
  .cases F
 all_goals(simp only[bE,aF.bare] at F;first|(cases F;done)|(split at F<;>simp at F)|(simp at F))
theorem Pt.call (hp:Pt I C1 σ a w S) (hj:C1.nt=nt) {pre post:List aJ}{f:FuncId}{ts:List Nat}{vs:List Value}{bor:List Nat}{d:Nat}{out:List Nat}{y:aF} (hb:jL P f) (hd:d<nt)
  (hτ:∀p,p∈τ.h->iD p.2∧p.2.fz=false) (hv:@vc I P (fun σ'=>LeL σ' τ) pre σ) (hl:ts.length=vs.length) (qa:∀i,i<ts.length->look τ.s (ts.getD i 0)=.v (vs.getD i undef))
  (h : ∀a' w' S',Past S w S' w'->Pt I C1 τ a' w' S'->Calls P f vs.toArray w' λe U=>∃u,e=.returned u∧∃F O H,Pt F C1 ⟨O,τ.h⟩ a' U H∧∃τ':St,@vc F P (fun σ'=>LeL σ' τ') post ⟨(d,.v u)::O,τ.h⟩∧(∀p,p∈τ'.h->iD p.2∧p.2.fz=false)∧
    ∀a3 w3 S3,Past H U S3 w3->Pt F C1 τ' a3 w3 S3->At P nt dr y Q a3 w3) :
  At P nt dr (.seq (.region (pre++⟨some d,.call (.func f) (ts.map .tmp) bor,none⟩::post) out []) y) Q a w:=by
 have h8:=hp;obtain⟨hM,hr,C,ρ,κ,qb,h4,h6,hq,hw⟩:=hp;have Y:C.nt=nt:=hq.nt.trans hj
 have h7:∀b,S b->b<w.heap.size∧¬C.Mut b:=λb hb=>⟨h8.dom b hb,λhm=>by
   obtain⟨n,hn,hx⟩:=h6 b hm;obtain⟨b',J⟩:=Option.isSome_iff_exists.1 hn;exact @OK.noS I _ _ _ _ _ _ _ hw _ _ J (hr _ (iM J)).2 _ hx hb⟩
 refine At.seq (@At.regionX I P C a w S ρ κ nt dr _ pre post _ out σ hw Y rfl ?_);refine @aBS I P (fun σ'=>LeL σ' τ) _ (fun σ1 hs=>?_) _ _ hv;intro a' w' S' ρ' κ' op ops hy ho;have L:=@OK.le I _ _ _ _ _ _ _ _ hy hs;have hk:=Pt.later qb h4 h7 L;have h0:Pt I C1 τ a' w' S':=Pt.of_ok hM hτ hq L;refine @aBY I P C a' w' S' ρ' κ' ops τ.f op _ f (ts.map .tmp) bor (by rw[Y];exact ho) rfl L hb _ _ ?_
 have hf:((ts.map Operand.tmp).map a'.eval).toArray=vs.toArray:=by
  congr 1;refine List.ext_getElem (by simp[hl]) λi h1 h2=>?_;have hi:i<ts.length:=by simpa using h1
  have:=h0.valv (qa i hi);have e1:ts.getD i 0=ts[i]:=by simp[hi]
  have e2:vs.getD i undef=vs[i]:=by simp[h2]
  rw[e1,e2] at this;simp only[List.getElem_map];exact this
 rw[hf];refine(h a' w' S' hk h0).mono ?_;rintro e U ⟨u,rfl,F,O,H,hpt2,τ',hv2,hτ',hrest⟩;have hz:=hpt2.put (d:=d) (by rw[hj];exact hd) u;have hh:=hz.dom;obtain⟨h3,h9,C3,ρ3,κ3,qc,h5,ht,Z,ha⟩:=hz;have he:C3.nt=nt:=Z.nt.trans hj
 have hu:∀b,H b->b<U.heap.size∧¬C3.Mut b:=λb hb=>⟨hh b hb,λhm=>by
   obtain⟨n,hn,hx⟩:=ht b hm;obtain⟨b',J⟩:=Option.isSome_iff_exists.1 hn;exact @OK.noS F _ _ _ _ _ _ _ ha _ _ J (h9 _ (iM J)).2 _ hx hb⟩
 refine⟨u,rfl,F,C3,⟨(d,.v u)::O,τ.h⟩,H,ρ3,κ3,fun σ'=>LeL σ' τ',he,ha,hv2,λa3 w3 hg=>?_⟩;obtain⟨S3,ρ4,κ4,hc⟩:=@bV.le F _ _ _ _ hg;exact hrest a3 w3 S3 (Pt.later qc h5 hu hc) (Pt.of_ok h3 hτ' Z hc)
end
section
variable [Envs] {P:Program}{C:Ctx}{a:Act}{w:World}{S:Nat->Prop}{ρ:Name->Option Nat}{κ:Name->Nat}
end
section
variable {P:Program}
theorem Own.rc {S:Nat->Prop}{w:World}{x:Option Nat}{c k:Nat}{rows:List (List AV)}{v:Value} (h:Own S w x c k rows v):RC (λb=>x=some b) w (.sl k rows) v:=by
 letI:Envs:=⟨[]⟩
 obtain⟨_,base,cap,rfl,h1,h2,h3,_⟩:=h.loc k rows false rfl;obtain⟨O,F⟩:=h.blk;rcases F with⟨hn,H⟩|⟨y,cs,T,fr,g1,Y,g3,_,_,g5,g6,U⟩
 .subst H;refine .sl k [] base cap 0 0 (λ_=>undef) (by simp) (by simp) (by simp) (by simp) (by simp) ⟨by omega,h2⟩
 .refine .sl k rows base cap y 0 (λi=>cs.getD i undef) (λha=>?_) (λi j hi J=>?_) (λi j hi J=>(U i j hi J).1) (λi j hi J=>?_) O ⟨by omega,h2⟩
  .grind
  .have L:i*k+j<cs.size:=by
    have:i*k+k<=rows.length*k:=by rw[←Nat.succ_mul];exact Nat.mul_le_mul_right k hi
    omega
   simp[World.cell?,Y,L]
  .have Z:rows.getD i []∈rows:=by
    rw[List.getD_eq_getElem?_getD,List.getElem?_eq_getElem hi];exact List.getElem_mem _
   exact RC.mono (S:=λ_=>False) (w:=w) (λ_ h=>h.elim) (λ_ h=>h.elim) (((U i j hi J).2).flat (cZ (h.fl _ Z)))
theorem aCu {w:World}{U D:Nat->Prop}{ss:List Value}{xs:List AV}{v:Value} (Y:RC U w (.sl 1 (ss.map λs=>[AV.v s])) v) (hl:xs.length=ss.length) (hr:∀j,j<ss.length->RC D w (xs.getD j .junk) (ss.getD j undef)) :
  RC (λb=>U b∨D b) w (.sl 1 (xs.map λx=>[x])) v:=by
 letI:Envs:=⟨[]⟩
 generalize hL:(ss.map λs=>[AV.v s])=L at Y;cases Y with
 | sl _ _ base cap x off ys hb hc ho hrr hk hcap =>
  subst hL;have e:(ss.map λs=>[AV.v s]).length=(xs.map λx=>[x]).length:=by simp[hl]
  have H:(ss.map λs=>[AV.v s]).length=ss.length:=by simp
  have F:(xs.map λx=>[x]).length=ss.length:=by simp[hl]
  rw[e];refine .sl 1 _ base cap x off ys (λha=>?_) (λi j hi O=>hc i j (by rw[H];rw[F] at hi;exact hi) O) (λi j hi O=>ho i j (by rw[H];rw[F] at hi;exact hi) O) (λi j hi O=>?_) (λi hi=>?_) (by rw[←e];exact hcap)
  .grind
  .obtain rfl:j=0:=by omega
   have J:i<ss.length:=by rw[F] at hi;exact hi
   have Z:=hrr i 0 (by rw[H];exact J) (by omega);have e1:((ss.map λs=>[AV.v s]).getD i []).getD 0 .junk=.v ss[i]:=by simp[J]
   rw[e1] at Z;have e3:ys (i*1+0)=ss[i]:=bL (ρ:=λ_=>none) (κ:=λ_=>0) (h:=λ_=>none) (.clo Z);rw[e3];have hx:i<xs.length:=by omega
   have e2:((xs.map λx=>[x]).getD i []).getD 0 .junk=xs.getD i .junk:=by simp[hx]
   rw[e2];have:=hr i J;have e4:ss.getD i undef=ss[i]:=by simp[J]
   rw[e4] at this;exact this.mono (λ_ h=>.inr h) λ_ _=>rfl
  all_goals grind
structure Mem where
 x0:Option Nat
 ss:List Value
 xs:Nat->Option Nat
 cs:Nat->Nat
def Mem.D (m:Mem) (b:Nat):Prop:=m.x0=some b∨∃i,i<m.ss.length∧m.xs i=some b
structure Dk (w:World) (ls:List (List (List AV))) (v:Value) (m:Mem):Prop where
 root:RC (λb=>m.x0=some b) w (.sl 1 (m.ss.map λs=>[AV.v s])) v
 rows:wQ (λb=>m.x0=some b) w 1 ls m.ss m.xs m.cs
 lt:∀b,m.D b->b<w.heap.size
theorem Dk.same {w w':World}{ls:List (List (List AV))}{v:Value}{m:Mem} (h:Dk w ls v m) (J:w.heap.size<=w'.heap.size) (H:∀b,m.D b->w'.heap[b]? = w.heap[b]?):Dk w' ls v m:=
 letI:Envs:=⟨[]⟩
 ⟨h.root.mono (λ_ h=>h) λb F=>H b (.inl F),h.rows.mono (λi b hi F=>(h.rows.row i hi).no F) λi b hi F=>H b (.inr ⟨i,hi,F⟩),λb F=>Nat.lt_of_lt_of_le (h.lt b F) J⟩
theorem Dk.rd {w:World}{ls:List (List (List AV))}{v:Value}{m:Mem} (h:Dk w ls v m):RC m.D w (.sl 1 (ls.map λr=>[.sl 1 r])) v:=by
 letI:Envs:=⟨[]⟩
 have L:=h.rows.len
 have:=aCu (D:=λb=>∃i,i<m.ss.length∧m.xs i=some b) (xs:=ls.map λr=>AV.sl 1 r) h.root (by simp[L]) λj H=>by
  have F:j<ls.length:=by omega
  have e:(ls.map λr=>AV.sl 1 r).getD j .junk=.sl 1 (ls.getD j []):=by simp[F]
  rw[e];exact(h.rows.row j H).rc.mono (λb J=>⟨j,H,J⟩) λ_ _=>rfl
 rw[List.map_map] at this;exact this.mono (λ_ h=>h) λ_ _=>rfl
theorem Dk.nil (w:World):Dk w [] (.slice none 0 0) ⟨none,[],λ_=>none,λ_=>0⟩:=
 ⟨.sl 1 [] none 0 0 0 (λ_=>undef) (by simp) (by simp) (by simp) (by simp) (by simp) ⟨by simp,by decide⟩,⟨rfl,by simp,by simp⟩,λb F=>by
   rcases F with h|⟨i,hi,_⟩
   . cases h
   . simp at hi⟩
def aLh (w w':World) (ls:List (List (List AV))) (v:Value):Prop:=∃m,Dk w' ls v m∧∀b,m.D b->w.heap.size<=b
theorem OK.put1R [Envs] {C:Ctx}{σ:St}{a:Act}{w:World}{S:Nat->Prop}{ρ:Name->Option Nat}{κ:Name->Nat} (H:OK C σ.f a w S ρ κ) {d:Nat} (J:d<C.nt) {r:AV}{u:Value} (L:RC S w r u):OK C (⟨(d,r)::σ.s,σ.h⟩:St).f (a.put (some d) u) w S ρ κ:=by
 have:=H.put (x:=r) (v:=u) (d:=some d) (.clo L) (λd' F=>by
   obtain rfl:=Option.some.inj F;exact J)
 have e:(⟨(d,r)::σ.s,σ.h⟩:St).f=⟨upd σ.f.s (some d) r,σ.f.h⟩:=by
  simp[St.f,look,upd,eq_comm]
 rw[e];exact this
variable {I:Envs}{C1:Ctx}{σ τ:St}{a:Act}{w:World}{S:Nat->Prop}
theorem Pt.putR (h:Pt I C1 σ a w S) {d:Nat} (Z:d<C1.nt) {r:AV}{u:Value} (hr:RC S w r u):Pt I C1 ⟨(d,r)::σ.s,σ.h⟩ (a.put (some d) u) w S:=by
 obtain⟨Y,L,C,ρ,κ,O,F,H,U,J⟩:=h;refine⟨Y,L,C,ρ,κ,O,F,H,U,?_⟩;exact @OK.put1R I _ _ _ _ _ _ _ J d (by rw[U.nt];exact Z) r u hr
variable {nt:Nat}{dr:Nat->Array Oper->Option (List Nat)}{Q:Exit->Act->World->Prop}
theorem Pt.grow (h:Pt I C1 σ a w S) {w':World} (H:tF w w') {D:Nat->Prop} (L:∀b,D b->w.heap.size<=b∧b<w'.heap.size) (J:List (Nat×AV)) (Z:∀p,p∈J->p.2=look σ.s p.1∧(flat p.2=true∨fO p.2=true)) :
  Pt (keepE (λb=>S b∨D b) w') C1 ⟨J,σ.h⟩ a w' (λb=>S b∨D b):=
 h.jump (λ_=>False) H.size (λb F _=>H.old b F) (λ_ h=>h.elim) H.out (λb F=>F.elim (λF=>⟨Nat.lt_of_lt_of_le (h.dom b F) H.size,.inl F⟩) λF=>⟨(L b F).2,.inr (L b F).1⟩) (λb F=>.inl (h.sub b F)) J λp Y=>by
  obtain⟨e,U|O⟩:=Z p Y
  .exact .inl ⟨e,U⟩
  .right
   rw[e] at O⊢;exact RC.mono (λb F=>.inl F) (λb F=>H.old b (h.dom b F)) (h.val O)
theorem Pt.marked (h:Pt I C1 σ a w S) {w':World}{D:Nat->Prop} (F:w.heap.size<=w'.heap.size) (hw:∀b,b<w.heap.size->¬D b->w'.heap[b]? = w.heap[b]?) (Y:w'.os=w.os∧w'.output=w.output)
  (U:∀b,D b->C1.w0.heap.size<=b∧S b) {K:Nat->Prop} (J:∀b,K b->S b) (O:∀b,C1.S0 b->K b) (H:List (Nat×AV)) (hs:∀p,p∈H->p.2=look σ.s p.1∧flat p.2=true):Pt (keepE K w') C1 ⟨H,σ.h⟩ a w' K:=
 h.jump D F hw U Y (λb L=>⟨Nat.lt_of_lt_of_le (h.dom b (J b L)) F,.inl (J b L)⟩) O H λp Z=>.inl (hs p Z)
theorem Pt.le (h:Pt I C1 σ a w S) (F:LeL σ τ) (hτ:∀p,p∈τ.h->iD p.2∧p.2.fz=false):Pt I C1 τ a w S:=by
 grind [Pt.of_ok,OK.le,Pt]
theorem Pt.ren (h:Pt I C1 σ a w S) {n m:Name} (Y:n≠m) (L:bX m σ=true) (hτ:∀p,p∈(wD n m σ).h->iD p.2∧p.2.fz=false):Pt I C1 (wD n m σ) a w S:=by
 obtain⟨H,hr,C,ρ,κ,Z,J,U,O,F⟩:=h;obtain⟨ρ',κ',h'⟩:=@OK.wD I C a w S ρ κ σ n m Y L F;exact Pt.of_ok H hτ O h'
theorem Pt.out (h:Pt I C1 σ a w S):tF C1.w0 w:=by
 obtain⟨H,U,C,ρ,κ,Y,J,O,L,F⟩:=h;exact @OK.grew I _ _ _ _ _ _ _ (@OK.back I _ _ _ _ _ _ _ L _ F) λb _=>H b
theorem Pt.bury (h:Pt I C1 σ a w S) {n:Name}{k:Nat}{rows:List (List AV)} (hb:aB σ.h n=some (.arr k rows false)) (hf:∀r,r∈rows->iV r=true) {t:Nat} (ht:look σ.s t=.agg [.loc n 0 rows.length]) (Z:∀p,p∈(eU n σ).h->iD p.2∧p.2.fz=false) :
  ∃ s x c,(∃b m c',s=Value.slice b m c')∧Own (λ_=>False) w x c k rows s∧(∀b,x=some b->C1.w0.heap.size<=b∧b<w.heap.size∧¬S b)∧
   ∀ s':List (Nat×AV),(∀p,p∈s'->(p.2=look (eU n σ).s p.1∧flat p.2=true)∨(p.2=look σ.s p.1∧fO p.2=true)∨p=(t,.agg [.v s]))->
    Pt (keepE (λb=>S b∨x=some b) w) C1 ⟨s',(eU n σ).h⟩ a w (λb=>S b∨x=some b):=by
 have O:=h.base;have U:=h.dom;have he:=h.sub;have hw:∀{t:Nat},fO (look σ.s t)=true->RC S w (look σ.s t) (a.tmps.getD t undef):=λhc=>h.val hc;obtain⟨hM,hr,C,ρ,κ,h0,hy,hz,hl,H⟩:=h;have hs:=@OK.slots I _ _ _ _ _ _ _ H t;rw[show σ.f.s t=_ from ht] at hs;obtain⟨vs,hv,hu,hn⟩:=qJ hs;have hk:RV S w ρ κ σ.f.h (.loc n 0 rows.length) (vs.getD 0 undef):=hn 0 (by simp);have J:=@OK.own I C a w S ρ κ σ.f H n k rows hb hf _ hk;have hh:∀b,ρ n=some b->¬S b:=λb F=>J.no F;have hd:∀b,ρ n=some b->b<w.heap.size:=λb F=>H.hok.lt (n:=n) (by rw[show σ.f.h n=_ from hb];rfl) F
 have Y:∀b,ρ n=some b->C1.w0.heap.size<=b:=λb F=>by
  rcases(@OK.back I _ _ _ _ _ _ _ hl _ H).mine n b (by rw[show σ.f.h n=_ from hb];rfl) F with h|h
  .exact h
  .exact(hM b h).elim
 obtain ⟨b0,c0,hq⟩:∃b0 c0,vs.getD 0 undef=.slice b0 rows.length c0:=by
  obtain⟨_,b1,c1,e,_⟩:=J.loc k rows false rfl;exact⟨b1,c1,e⟩
 refine⟨vs.getD 0 undef,ρ n,κ n,⟨_,_,_,hq⟩,J.mono (λ_ _ h=>h) (λ_ _=>rfl),λb F=>⟨Y b F,hd b F,hh b F⟩,λs' ho=>?_⟩;have ha:@OK I C (eU n σ).f a w S ρ κ:=by rw[tT];exact H.kill n
 have hg:∀m,((eU n σ).f.h m).isSome->m≠n∧(σ.f.h m).isSome:=λm hm=>by
  grind [tT,pE]
 obtain ⟨h1,h2⟩:=OK.jump I (keepE (λb=>S b∨ρ n=some b) w) hl hM ha (λ_=>False) (Nat.le_refl _) (λ_ _ _=>rfl) (λ_ h=>h.elim) ⟨rfl,rfl⟩ (S':=λb=>S b∨ρ n=some b) (λb F=>F.elim (U b) (hd b)) (λb F=>.inl (he b F))
  (λb F=>F.elim (O b) λh=>.inr (Y b h)) (λb F m hm hx=>by
    obtain⟨g1,g2⟩:=hg m hm;rcases F with h|h
    . obtain⟨b',L⟩:=Option.isSome_iff_exists.1 g2
      exact @OK.noS I _ _ _ _ _ _ _ H _ _ L (hr _ (iM L)).2 _ hx h
    . exact g1 (H.hok.inj m n b g2 (by rw[show σ.f.h n=_ from hb];rfl) hx h)) aBd Z s' (λp hp=>by
    rcases ho p hp with h|⟨e,hc⟩|rfl
    . exact .inl h
    . grind [RC.mono]
    . right
      show RC _ w (.agg [.v (vs.getD 0 undef)]) (a.tmps.getD t undef)
      rw[hv];refine .agg _ _ hu λj hj=>?_;obtain rfl:j=0:=by simpa using hj
      exact .v _)
 exact⟨hM,Z,_,ρ,κ,rfl,rfl,λ_ h=>h,h2,h1⟩
theorem Pt.cond (h:Pt I C1 σ a w S) {t:Nat}{b:Bool}{x y:aF} (F:look σ.s t=.v (.bool b)) (H:b=true->At P nt dr x Q a w) (J:b=false->At P nt dr y Q a w):At P nt dr (.cond (.tmp t) x y) Q a w:=
 At.cond (t:=b) (by have:=h.valv F;exact this) H J
end
end Go.Vs
