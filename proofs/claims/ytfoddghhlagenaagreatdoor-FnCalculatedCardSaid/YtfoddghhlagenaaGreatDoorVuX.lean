/- Regions of open order whose orders are gone through, also where a call writes what was lent; operations that only read slots are taken first. -/
import Derived.Test.YtfoddghhlagenaaGreatDoorVuA
import Derived.Below
import Derived.Deep.Upon
import Derived.Deep.Draws
import Derived.Lib.SliceRun
import Derived.Laws.AppendOwn
set_option linter.all false
set_option maxHeartbeats 8000000
namespace Go.Vs
section
variable {P:Program}
theorem RC.flatW [Envs] {S S':Nat->Prop}{w w':World}{x:AV}{v:Value} (h:RC S w x v) (hf:Vs.flat x=true):RC S' w' x v:=
 RC.mono (S:=λ_=>False) (w:=w) (λ_ h=>h.elim) (λ_ h=>h.elim) (RC.flat h hf)
theorem RV.flatW [Envs] {S S':Nat->Prop}{w w':World}{ρ:Name->Option Nat}{κ:Name->Nat}{hh:Name->Option Blk}{x:AV}{v:Value} (h:RV S w ρ κ hh x v) (hf:Vs.flat x=true):RV S' w' ρ κ hh x v:=
 (show RV (λ_=>False) w ρ κ hh x v from RV.flat h hf).mono (λ_ h=>h.elim) (λ_ h=>h.elim) λm _=>dK.refl _ _ _ _
theorem OK.namesLt [Envs] {C:Ctx}{σ:FSt}{a:Act}{w:World}{S:Nat->Prop}{ρ:Name->Option Nat}{κ:Name->Nat} (hok:OK C σ a w S ρ κ):∀n x,(σ.h n).isSome->ρ n=some x->x<w.heap.size:=λn x hn hx=>hok.hok.lt hn hx
theorem OK.put1 [Envs] {C:Ctx}{σ:St}{a:Act}{w:World}{S:Nat->Prop}{ρ:Name->Option Nat}{κ:Name->Nat} (hok:OK C σ.f a w S ρ κ) {d:Nat} (hd:d<C.nt) (u:Value):OK C (⟨(d,.v u)::σ.s,σ.h⟩:St).f (a.put (some d) u) w S ρ κ:=by
 have:=hok.put (x:=.v u) (v:=u) (d:=some d) (.clo (.v u)) (λd' hd'=>by
   obtain rfl:=Option.some.inj hd'
   exact hd)
 have e:(⟨(d,.v u)::σ.s,σ.h⟩:St).f=⟨upd σ.f.s (some d) (.v u),σ.f.h⟩:=by
  simp[St.f,look,upd,eq_comm]
 rw[e]
 exact this
theorem OK.jump (I I':Envs) {C1 C:Ctx}{σ:St}{a:Act}{w w':World}{S:Nat->Prop}{ρ:Name->Option Nat}{κ:Name->Nat} (hl:Later C1 C) (hM1:∀b,¬C1.Mut b) (hok:@OK I C σ.f a w S ρ κ)
  (D:Nat->Prop) (hsz:w.heap.size<=w'.heap.size) (hw:∀b,b<w.heap.size->¬D b->w'.heap[b]? = w.heap[b]?) (hD:∀b,D b->C1.w0.heap.size<=b∧∀n,(σ.f.h n).isSome->ρ n≠some b)
  (ho:w'.os=w.os∧w'.output=w.output) {S':Nat->Prop} (hS:∀b,S' b->b<w'.heap.size) (h0:∀b,C1.S0 b->S' b) (h1:∀b,S' b->C1.S0 b∨C1.w0.heap.size<=b)
  (hN:∀b,S' b->∀n,(σ.f.h n).isSome->ρ n≠some b) (he:@Env I' S' w') (hcl:∀p,p∈σ.h->kV p.2∧p.2.fz=false) (s':List (Nat×AV))
  (hs:∀p,p∈s'->(p.2=look σ.s p.1∧flat p.2=true)∨RC S' w' p.2 (a.tmps.getD p.1 undef)) :
  @OK I' (C.anew w' S' σ.f.h ρ) (⟨s',σ.h⟩:St).f a w' S' ρ κ∧Later C1 (C.anew w' S' σ.f.h ρ):=by
 have hb:=@OK.back I _ _ _ _ _ _ _ hl _ hok
 have hlt:∀n x,(σ.f.h n).isSome->ρ n=some x->x<w.heap.size:=@OK.namesLt I _ _ _ _ _ _ _ hok
 have hkeep:∀n x,(σ.f.h n).isSome->ρ n=some x->w'.heap[x]? = w.heap[x]?:=λn x hn hx=>hw x (hlt n x hn hx) λhd=>(hD x hd).2 n hn hx
 have hlk:∀(s:List (Nat×AV)) t,look s t=.junk∨(t,look s t)∈s:=by
  intro s
  induction s with
  |nil=>intro t;left;rfl
  | cons p r ih =>
   grind [look]
 obtain⟨g1,g2,g3,⟨j1,j2,j3,j4⟩,g5,g6,g7,g8,g9,g10,g11⟩:=hb
 obtain⟨o1,o2,o3,⟨k1,k2,k3,k4⟩,o5,o6,o7,o8,o9,o10,o11⟩:=hok
 constructor
 .refine⟨o1,o2,λt=>?_,⟨λn b hb=>?_,k2,hS,he⟩,Nat.le_refl _,λ_ _ _=>rfl,λn x h1 h2=>.inr ⟨n,h1,h2⟩,λ_ h=>h,λb hb=>.inl hb,⟨rfl,rfl⟩,o11⟩
  .show RV S' w' _ _ _ (look s' t) _
   rcases hlk s' t with h|h
   .rw[h];exact .junk _
   .rcases hs _ h with⟨e,hf⟩|e
    .have h1:=o3 t
     have e':look s' t=look σ.s t:=e
     have hf':flat (look s' t)=true:=hf
     rw[e'] at hf'⊢
     exact RV.flatW h1 hf'
    .exact .clo e
  .have hb':σ.f.h n=some b:=hb
   have hk:=k1 n b hb'
   have hn:∀x,ρ n=some x->¬S' x:=λx hx hs=>hN x hs n (by rw[hb'];rfl) hx
   have hu:∀x,ρ n=some x->w'.heap[x]? = w.heap[x]?:=λx hx=>hkeep n x (by rw[hb'];rfl) hx
   obtain⟨hf,hz⟩:=hcl _ (eX hb')
   cases b with
   | var c z =>
    obtain⟨x,cs,T,fr,g1,g2,g3,g4,g4',g5,g6,g7⟩:=hk
    have hz':z=false:=hz
    subst hz'
    exact⟨x,cs,T,fr,g1,by rw[hu x g1];exact g2,g3,λ_ hx=>hn x g1 hx,λh=>(by cases h),g5,g6,λj hj=>⟨(g7 j hj).1,RV.flatW (g7 j hj).2 (bB hf)⟩⟩
   | arr k l z =>
    have hz':z=false:=hz
    subst hz'
    obtain⟨g0,⟨g1,g2⟩|⟨x,cs,T,fr,g1,g2,g3,g4,g4',g5,g6,g7⟩⟩:=hk
    .exact⟨g0,.inl ⟨g1,g2⟩⟩
    .refine⟨g0,.inr ⟨x,cs,T,fr,g1,by rw[hu x g1];exact g2,g3,λ_ hx=>hn x g1 hx,λh=>(by cases h),g5,g6,λi j hi hj=>⟨(g7 i j hi hj).1,RC.flatW (g7 i j hi hj).2 (bB (hf _ ?_))⟩⟩⟩
     rw[List.getD_eq_getElem?_getD,List.getElem?_eq_getElem hi];exact List.getElem_mem _
 .refine⟨hl.nt,Nat.le_trans g5 hsz,λb hb hm=>?_,λb hb=>?_,h0,λb hb=>(h1 b hb).imp_right .inl,⟨ho.1.trans g10.1,ho.2.trans g10.2⟩,hl.base⟩
  .show w'.heap[b]? = _
   all_goals grind
  .obtain⟨n,q1,q2⟩:=hb
   exact g7 n b q1 q2
structure Pt (I:Envs) (C1:Ctx) (σ:St) (a:Act) (w:World) (S:Nat->Prop):Prop where
 nomut:∀b,¬C1.Mut b
 rows:∀p,p∈σ.h->kV p.2∧p.2.fz=false
 ex:∃(C:Ctx) (ρ:Name->Option Nat) (κ:Name->Nat),C.w0=w∧C.S0=S∧(∀b,C.Mut b->∃n,(σ.f.h n).isSome∧ρ n=some b)∧Later C1 C∧@OK I C σ.f a w S ρ κ
variable {I:Envs}{C1:Ctx}{σ τ:St}{a:Act}{w:World}{S:Nat->Prop}
theorem Pt.of_ok {C:Ctx}{ρ:Name->Option Nat}{κ:Name->Nat} (hM:∀b,¬C1.Mut b) (hr:∀p,p∈σ.h->kV p.2∧p.2.fz=false) (hl:Later C1 C) (hok:@OK I C σ.f a w S ρ κ):Pt I C1 σ a w S:=
 ⟨hM,hr,C.anew w S σ.f.h ρ,ρ,κ,rfl,rfl,λ_ h=>h,hl.trans (@OK.later I _ _ _ _ _ _ _ hok),@OK.anew I _ _ _ _ _ _ _ hok⟩
theorem Pt.dom (h:Pt I C1 σ a w S):∀b,S b->b<w.heap.size:=by
 obtain⟨_,_,C,ρ,κ,_,_,_,_,hok⟩:=h
 exact hok.hok.dom
theorem Pt.env (h:Pt I C1 σ a w S):@Env I S w:=by
 obtain⟨_,_,C,ρ,κ,_,_,_,_,hok⟩:=h
 exact @HOK.env I _ _ _ _ _ (@OK.hok I _ _ _ _ _ _ _ hok)
theorem Pt.base (h:Pt I C1 σ a w S):∀b,S b->C1.S0 b∨C1.w0.heap.size<=b:=by
 obtain⟨hM,_,C,ρ,κ,_,_,_,hl,hok⟩:=h
 intro b hb
 rcases(@OK.back I _ _ _ _ _ _ _ hl _ hok).Snew b hb with h|h|h
 all_goals grind
theorem Pt.sub (h:Pt I C1 σ a w S):∀b,C1.S0 b->S b:=by
 obtain⟨hM,_,C,ρ,κ,_,_,_,hl,hok⟩:=h
 exact(@OK.back I _ _ _ _ _ _ _ hl _ hok).S0
theorem Pt.size (h:Pt I C1 σ a w S):C1.w0.heap.size<=w.heap.size:=by
 obtain⟨hM,_,C,ρ,κ,_,_,_,hl,hok⟩:=h
 exact(@OK.back I _ _ _ _ _ _ _ hl _ hok).size
theorem Pt.val (h:Pt I C1 σ a w S) {t:Nat} (hc:fM (look σ.s t)=true):RC S w (look σ.s t) (a.tmps.getD t undef):=by
 obtain⟨hM,_,C,ρ,κ,_,_,_,hl,hok⟩:=h
 exact RV.closed (@OK.slots I _ _ _ _ _ _ _ hok t) hc
theorem Pt.valv (h:Pt I C1 σ a w S) {t:Nat}{v:Value} (hc:look σ.s t=.v v):a.tmps.getD t undef=v:=by
 obtain⟨hM,_,C,ρ,κ,_,_,_,hl,hok⟩:=h
 have:=@OK.slots I _ _ _ _ _ _ _ hok t
 rw[show σ.f.s t=.v v from hc] at this
 exact aZ this
theorem Pt.jump (h:Pt I C1 σ a w S) {w':World} (D:Nat->Prop) (hsz:w.heap.size<=w'.heap.size) (hw:∀b,b<w.heap.size->¬D b->w'.heap[b]? = w.heap[b]?) (hD:∀b,D b->C1.w0.heap.size<=b∧S b)
  (ho:w'.os=w.os∧w'.output=w.output) {S':Nat->Prop} (hS:∀b,S' b->b<w'.heap.size∧(S b∨w.heap.size<=b)) (h0:∀b,C1.S0 b->S' b) (s':List (Nat×AV))
  (hs:∀p,p∈s'->(p.2=look σ.s p.1∧flat p.2=true)∨RC S' w' p.2 (a.tmps.getD p.1 undef)):Pt (keepE S' w') C1 ⟨s',σ.h⟩ a w' S':=by
 have hb:=h.base
 have hz:=h.size
 obtain⟨hM,hr,C,ρ,κ,hw0,hS0,hmu,hl,hok⟩:=h
 have hno:∀b,S b->∀n,(σ.f.h n).isSome->ρ n≠some b:=λb hb n hn hx=>by
  obtain⟨b',hb'⟩:=Option.isSome_iff_exists.1 hn
  exact @OK.noS I _ _ _ _ _ _ _ hok _ _ hb' (hr _ (eX hb')).2 _ hx hb
 obtain ⟨h1,h2⟩:=OK.jump I (keepE S' w') hl hM hok D hsz hw (λb hd=>⟨(hD b hd).1,hno b (hD b hd).2⟩) ho (S':=S') (λb hb=>(hS b hb).1) h0 (λb h=>by
   rcases(hS b h).2 with h|h
   . exact hb b h
   . exact .inr (Nat.le_trans hz h)) (λb h n hn hx=>by
   rcases(hS b h).2 with h|h
   . exact hno b h n hn hx
   . have:=hok.hok.lt hn hx;omega) uU hr s' hs
 exact⟨hM,hr,_,ρ,κ,rfl,rfl,λ_ h=>h,h2,h1⟩
theorem Pt.set (h:Pt I C1 σ a w S) (s':List (Nat×AV)) (hs:∀p,p∈s'->(p.2=look σ.s p.1∧flat p.2=true)∨RC S w p.2 (a.tmps.getD p.1 undef)):Pt (keepE S w) C1 ⟨s',σ.h⟩ a w S:=
 h.jump (λ_=>False) (Nat.le_refl _) (λ_ _ _=>rfl) (λ_ h=>h.elim) ⟨rfl,rfl⟩ (λb hb=>⟨h.dom b hb,.inl hb⟩) h.sub s' hs
theorem Pt.put (h:Pt I C1 σ a w S) {d:Nat} (hd:d<C1.nt) (u:Value):Pt I C1 ⟨(d,.v u)::σ.s,σ.h⟩ (a.put (some d) u) w S:=by
 obtain⟨hM,hr,C,ρ,κ,hw0,hS0,hmu,hl,hok⟩:=h
 refine⟨hM,hr,C,ρ,κ,hw0,hS0,hmu,hl,?_⟩
 exact @OK.put1 I _ _ _ _ _ _ _ hok d (by rw[hl.nt];exact hd) u
variable {nt:Nat}{dr:Nat->Array Oper->Option (List Nat)}{Q:Exit->Act->World->Prop}
structure Past (S:Nat->Prop) (w:World) (S':Nat->Prop) (w':World):Prop where
 sub:∀b,S b->S' b
 old:∀b,S b->w'.heap[b]? = w.heap[b]?
 size:w.heap.size<=w'.heap.size
theorem Past.refl (S:Nat->Prop) (w:World):Past S w S w:=⟨λ_ h=>h,λ_ _=>rfl,Nat.le_refl _⟩
theorem Past.trans {S' S'':Nat->Prop}{w' w'':World} (h:Past S w S' w') (h':Past S' w' S'' w''):Past S w S'' w'':=
 ⟨λb hb=>h'.sub b (h.sub b hb),λb hb=>(h'.old b (h.sub b hb)).trans (h.old b hb),Nat.le_trans h.size h'.size⟩
theorem Past.rc {S':Nat->Prop}{w':World} (h:Past S w S' w') {D:Nat->Prop} (hD:∀b,D b->S b) {x:AV}{v:Value} (hx:RC D w x v):RC D w' x v:=
 letI:Envs:=⟨[]⟩
 hx.mono (λ_ h=>h) λb hb=>h.old b (hD b hb)
theorem Pt.later {C:Ctx}{ρ:Name->Option Nat}{κ:Name->Nat}{S':Nat->Prop}{a':Act}{w':World} (hw0:C.w0=w) (hS0:C.S0=S) (hno:∀b,S b->b<w.heap.size∧¬C.Mut b) (hok:@OK I C τ.f a' w' S' ρ κ):Past S w S' w':=by
 grind [OK,Past]
theorem Pt.go (hp:Pt I C1 σ a w S) (hdr:iO P dr) (hnt:C1.nt=nt) (n:Nat) (c:aD) {X:Prop}{E:gP->St->Prop} (hτ:∀p,p∈τ.h->kV p.2∧p.2.fz=false)
  (hv:∀C:Ctx,C.nt=nt->@wpcN I P C dr n c (fun σ'=>LeL σ' τ∧X) E σ) (hE:∀i σ,¬E (.exit i) σ) (hR:∀C a w,Later C1 C->@bK I C (E .ret) a w->Q .ret a w)
  (hN:∀a' w' S',Past S w S' w'->Pt I C1 τ a' w' S'->X->At P nt dr (aEo n c) Q a' w'):At P nt dr c Q a w:=by
 have hp':=hp
 obtain⟨hM,hr,C,ρ,κ,hw0,hS0,hmu,hl,hok⟩:=hp
 have hCnt:C.nt=nt:=hl.nt.trans hnt
 have hno:∀b,S b->b<w.heap.size∧¬C.Mut b:=λb hb=>⟨hp'.dom b hb,λhm=>by
   obtain⟨n,hn,hx⟩:=hmu b hm
   obtain⟨b',hb'⟩:=Option.isSome_iff_exists.1 hn
   exact @OK.noS I _ _ _ _ _ _ _ hok _ _ hb' (hr _ (eX hb')).2 _ hx hb⟩
 refine @At.upto P nt dr Q I C hdr hCnt _ E (λi a w hg=>?_) (λa w hg=>hR C a w hl hg) n c σ a w S ρ κ hok (hv C hCnt) λa' w' hg=>?_
 .grind [bK]
 .obtain⟨σ',S',ρ',κ',⟨hle,hX⟩,hok'⟩:=hg
  have hok2:=@OK.le I _ _ _ _ _ _ _ _ hok' hle
  exact hN a' w' S' (Pt.later hw0 hS0 hno hok2) (Pt.of_ok hM hτ hl hok2) hX
theorem At.regionX [Envs] {P:Program}{C:Ctx}{a:Act}{w:World}{S:Nat->Prop}{ρ:Name->Option Nat}{κ:Name->Nat}{nt:Nat}{dr:Nat->Array Oper->Option (List Nat)}{Q:Exit->Act->World->Prop}{pre post:List aH}{o:aH}{out:List Nat}{σ:St} (hok:OK C σ.f a w S ρ κ) (hnt:C.nt=nt) (hg:o.guard=none)
  (hv:vc P (fun σ1=>∀(a:Act) (w:World) (S:Nat->Prop) (ρ:Name->Option Nat) (κ:Name->Nat) (op:Oper) (ops:Array Oper),OK C σ1.f a w S ρ κ->gY P nt ops op=some o.bare->op.wp P a w (λa w=>∃I':Envs,@aBN I' P nt post Q a w) Q) pre σ) :
  At P nt dr (.region (pre++o::post) out []) Q a w:=by
 intro c hc hzc
 cases c
 case region id ops draw =>
  simp only[aU,aD.bare] at hc
  split at hc
  .rename_i fl' hdraw
   cases ho:vD P nt ops ops.toList with
   |none=>rw[ho] at hc;cases hc
   | some l =>
    rw[ho] at hc
    simp only[Option.map_some,Option.some.injEq,aD.region.injEq,true_and] at hc
    obtain⟨hl,hfl⟩:=hc
    subst hl;subst hfl
    cases draw with
    | true =>
     grind [zB]
    | false =>
     obtain⟨g1,g2⟩:=gW ho
     have hs:∀(j:Nat) (ao:aH),(pre++o::post)[j]? = some ao->∃op,ops[j]? = some op∧gY P nt ops op=some ao.bare:=λj ao hj=>by
      grind
     refine wp_region ?_
     have hlen:ops.size=pre.length+(post.length+1):=by
      grind
     rw[List.range_eq_range',hlen]
     refine iH (C:=C) (K:=_) (e:=pre.length) (fun σ1 a w S ρ κ hK hok1=>?_) pre 0 (by omega) (λj ao hj=>?_) σ a w S ρ κ hv hok
     .obtain⟨op,h1,h2⟩:=hs pre.length o (by simp)
      obtain⟨_,_,_,h4⟩:=dR h2
      have hg2:op.guard=none:=by
       grind
      rw[List.range'_succ,wpOps_cons]
      unfold wpOp
      rw[h1]
      have:Region.wanted op (yielded ops a.tmps)=true:=by simp[Region.wanted,hg2]
      simp only[this,if_true]
      refine .inl (Oper.wp_mono (λa' w' hr=>?_) (hK a w S ρ κ op ops hok1 h2))
      obtain⟨I',C',σ',S',ρ',κ',K',e1,e2,e3,e4⟩:=hr
      letI:=I'
      subst e1
      have:=iH (C:=C') (P:=P) (ops:=ops) (Q:=Q) (K:=K') (e:=pre.length+1+post.length) (m:=0) (fun σ2 a2 w2 S2 ρ2 κ2 hk hok2=>by
        simp only[List.range'_zero]
        exact e4 a2 w2 ⟨σ2,S2,ρ2,κ2,hk,hok2⟩) post (pre.length+1) rfl (λj ao hj=>by
        obtain ⟨op',q1,q2⟩:=hs (pre.length+1+j) ao (by
          rw[List.getElem?_append_right (by omega),show pre.length+1+j-pre.length=j+1 by omega]
          simpa using hj)
        exact⟨op',q1,q2⟩) σ' a' w' S' ρ' κ' e3 e2
      simpa using this
     .obtain⟨op',q1,q2⟩:=hs j ao (by
        have:j<pre.length:=by
          grind
        rw[List.getElem?_append_left this];exact hj)
      all_goals grind
  .cases hc
 all_goals(simp only[aU,aD.bare] at hc;first|(cases hc;done)|(split at hc<;>simp at hc)|(simp at hc))
theorem Pt.call (hp:Pt I C1 σ a w S) (hnt:C1.nt=nt) {pre post:List aH}{f:FuncId}{ts:List Nat}{vs:List Value}{bor:List Nat}{d:Nat}{out:List Nat}{y:aD} (hb:lH P f) (hd:d<nt)
  (hτ:∀p,p∈τ.h->kV p.2∧p.2.fz=false) (hv:@vc I P (fun σ'=>LeL σ' τ) pre σ) (hl:ts.length=vs.length) (hts:∀i,i<ts.length->look τ.s (ts.getD i 0)=.v (vs.getD i undef))
  (h : ∀a' w' S',Past S w S' w'->Pt I C1 τ a' w' S'->Calls P f vs.toArray w' λe w''=>∃u,e=.returned u∧∃I'' s'' S'',Pt I'' C1 ⟨s'',τ.h⟩ a' w'' S''∧∃τ':St,@vc I'' P (fun σ'=>LeL σ' τ') post ⟨(d,.v u)::s'',τ.h⟩∧(∀p,p∈τ'.h->kV p.2∧p.2.fz=false)∧
    ∀a3 w3 S3,Past S'' w'' S3 w3->Pt I'' C1 τ' a3 w3 S3->At P nt dr y Q a3 w3) :
  At P nt dr (.seq (.region (pre++⟨some d,.call (.func f) (ts.map .tmp) bor,none⟩::post) out []) y) Q a w:=by
 have hp':=hp
 obtain⟨hM,hr,C,ρ,κ,hw0,hS0,hmu,hla,hok⟩:=hp
 have hCnt:C.nt=nt:=hla.nt.trans hnt
 have hno:∀b,S b->b<w.heap.size∧¬C.Mut b:=λb hb=>⟨hp'.dom b hb,λhm=>by
   obtain⟨n,hn,hx⟩:=hmu b hm
   obtain⟨b',hb'⟩:=Option.isSome_iff_exists.1 hn
   exact @OK.noS I _ _ _ _ _ _ _ hok _ _ hb' (hr _ (eX hb')).2 _ hx hb⟩
 refine At.seq (@At.regionX I P C a w S ρ κ nt dr _ pre post _ out σ hok hCnt rfl ?_)
 refine @aBQ I P (fun σ'=>LeL σ' τ) _ (fun σ1 hle1=>?_) _ _ hv
 intro a' w' S' ρ' κ' op ops hokx hcop
 have hok2:=@OK.le I _ _ _ _ _ _ _ _ hokx hle1
 have hpast:=Pt.later hw0 hS0 hno hok2
 have hpt:Pt I C1 τ a' w' S':=Pt.of_ok hM hτ hla hok2
 refine @zS I P C a' w' S' ρ' κ' ops τ.f op _ f (ts.map .tmp) bor (by rw[hCnt];exact hcop) rfl hok2 hb _ _ ?_
 have hargs:((ts.map Operand.tmp).map a'.eval).toArray=vs.toArray:=by
  congr 1
  refine List.ext_getElem (by simp[hl]) λi h1 h2=>?_
  have hi:i<ts.length:=by simpa using h1
  have:=hpt.valv (hts i hi)
  have e1:ts.getD i 0=ts[i]:=by simp[hi]
  have e2:vs.getD i undef=vs[i]:=by simp[h2]
  rw[e1,e2] at this
  simp only[List.getElem_map]
  exact this
 rw[hargs]
 refine(h a' w' S' hpast hpt).mono ?_
 rintro e w'' ⟨u,rfl,I'',s'',S'',hpt2,τ',hv2,hτ',hrest⟩
 have hp3:=hpt2.put (d:=d) (by rw[hnt];exact hd) u
 have hdom3:=hp3.dom
 obtain⟨hM3,hr3,C3,ρ3,κ3,hw3,hS3,hmu3,hla3,hok3⟩:=hp3
 have hCnt3:C3.nt=nt:=hla3.nt.trans hnt
 have hno3:∀b,S'' b->b<w''.heap.size∧¬C3.Mut b:=λb hb=>⟨hdom3 b hb,λhm=>by
   obtain⟨n,hn,hx⟩:=hmu3 b hm
   obtain⟨b',hb'⟩:=Option.isSome_iff_exists.1 hn
   exact @OK.noS I'' _ _ _ _ _ _ _ hok3 _ _ hb' (hr3 _ (eX hb')).2 _ hx hb⟩
 refine⟨u,rfl,I'',C3,⟨(d,.v u)::s'',τ.h⟩,S'',ρ3,κ3,fun σ'=>LeL σ' τ',hCnt3,hok3,hv2,λa3 w3 hg=>?_⟩
 obtain⟨S3,ρ4,κ4,hok4⟩:=@bK.le I'' _ _ _ _ hg
 exact hrest a3 w3 S3 (Pt.later hw3 hS3 hno3 hok4) (Pt.of_ok hM3 hτ' hla3 hok4)
end
section
variable [Envs] {P:Program}{C:Ctx}{a:Act}{w:World}{S:Nat->Prop}{ρ:Name->Option Nat}{κ:Name->Nat}
theorem Own.notS {x:Option Nat}{c k:Nat}{rows:List (List AV)}{v:Value} (ho:Own S w x c k rows v) {b:Nat} (hb:x=some b):¬S b:=by
 obtain⟨_,hn|⟨y,cs,T,fr,g1,g2,g3,g4,_⟩⟩:=ho.blk
 .rw[hb] at hn;cases hn.1
 .dsimp only at g1
  rw[hb] at g1
  obtain rfl:=Option.some.inj g1
  exact g4 rfl
theorem OK.adopt {σ:St} (hok:OK C σ.f a w S ρ κ) {n:Name} (hf:bG n σ=true) {x:Option Nat}{c k:Nat}{rows:List (List AV)}{v:Value} (ho:Own S w x c k rows v)
  (hx:∀b,x=some b->(∀m,(σ.f.h m).isSome->ρ m≠some b)∧(C.w0.heap.size<=b∨C.Mut b)) {t:Nat} (ht:a.tmps.getD t undef=v) :
  OK C (⟨(t,.loc n 0 rows.length)::σ.s,(n,.arr k rows false)::σ.h⟩:St).f a w S (λm=>if m=n then x else ρ m) (λm=>if m=n then c else κ m):=by
 have h1:=hok.add2 (n:=n) (bS hf) (w':=w) (b:=.arr k rows false) (ox:=x) (kn:=c) (Nat.le_refl _) (λ_ _ _=>rfl) ⟨rfl,rfl⟩ (λb hb=>⟨(hx b hb).1,ho.notS hb,(hx b hb).2⟩) (fun ρ' κ' h' h1 h2 h3=>by
   have:=ho.blk
   simp only[pF] at this⊢
   rw[h1,h2]
   exact this)
 have h2:=h1.know (t:=t) (x:=.loc n 0 rows.length) (.loc _ _ _ _ (λk' l' z' hl=>by
   simp only[hput,if_true] at hl
   obtain⟨rfl,rfl,rfl⟩:k=k'∧rows=l'∧false=z':=by simpa using hl
   have:=ho.loc k rows false rfl
   rw[ht]
   simpa using this))
 have e:(⟨upd σ.f.s (some t) (.loc n 0 rows.length),hput σ.f.h n (some (.arr k rows false))⟩:FSt)=(⟨(t,.loc n 0 rows.length)::σ.s,(n,.arr k rows false)::σ.h⟩:St).f:=by
  simp only[St.f,FSt.mk.injEq]
  refine⟨funext λu=>?_,funext λm=>?_⟩
  .by_cases hu:u=t
   .subst hu;simp[upd,look]
   .have hu':¬t=u:=λe=>hu e.symm
    simp[upd,look,hu]
  .by_cases hm:m=n
   .subst hm;simp[hput,aA]
   .have hm':¬n=m:=λe=>hm e.symm
    simp[hput,aA,hm]
 rw[e] at h2
 exact h2
end
section
variable {P:Program}
theorem Own.rc {S:Nat->Prop}{w:World}{x:Option Nat}{c k:Nat}{rows:List (List AV)}{v:Value} (h:Own S w x c k rows v):RC (λb=>x=some b) w (.sl k rows) v:=by
 letI:Envs:=⟨[]⟩
 obtain⟨_,base,cap,rfl,h1,h2,h3,_⟩:=h.loc k rows false rfl
 obtain⟨hrk,hblk⟩:=h.blk
 rcases hblk with⟨hn,hnil⟩|⟨y,cs,T,fr,g1,g2,g3,_,_,g5,g6,g7⟩
 .subst hnil
  refine .sl k [] base cap 0 0 (λ_=>undef) (by simp) (by simp) (by simp) (by simp) (by simp) ⟨by omega,h2⟩
 .refine .sl k rows base cap y 0 (λi=>cs.getD i undef) (λhne=>?_) (λi j hi hj=>?_) (λi j hi hj=>(g7 i j hi hj).1) (λi j hi hj=>?_) hrk ⟨by omega,h2⟩
  .grind
  .have hlt:i*k+j<cs.size:=by
    have:i*k+k<=rows.length*k:=by rw[←Nat.succ_mul];exact Nat.mul_le_mul_right k hi
    omega
   simp[World.cell?,g2,hlt]
  .have hm:rows.getD i []∈rows:=by
    rw[List.getD_eq_getElem?_getD,List.getElem?_eq_getElem hi];exact List.getElem_mem _
   exact RC.mono (S:=λ_=>False) (w:=w) (λ_ h=>h.elim) (λ_ h=>h.elim) (((g7 i j hi hj).2).flat (bB (h.fl _ hm)))
theorem aDC {w:World}{D0 D:Nat->Prop}{ss:List Value}{xs:List AV}{v:Value} (h0:RC D0 w (.sl 1 (ss.map λs=>[AV.v s])) v) (hl:xs.length=ss.length) (hr:∀j,j<ss.length->RC D w (xs.getD j .junk) (ss.getD j undef)) :
  RC (λb=>D0 b∨D b) w (.sl 1 (xs.map λx=>[x])) v:=by
 letI:Envs:=⟨[]⟩
 generalize hL:(ss.map λs=>[AV.v s])=L at h0
 cases h0 with
 | sl _ _ base cap x off ys hb hc ho hrr hk hcap =>
  subst hL
  have e:(ss.map λs=>[AV.v s]).length=(xs.map λx=>[x]).length:=by simp[hl]
  have hlen:(ss.map λs=>[AV.v s]).length=ss.length:=by simp
  have hlen2:(xs.map λx=>[x]).length=ss.length:=by simp[hl]
  rw[e]
  refine .sl 1 _ base cap x off ys (λhne=>?_) (λi j hi hj=>hc i j (by rw[hlen];rw[hlen2] at hi;exact hi) hj) (λi j hi hj=>ho i j (by rw[hlen];rw[hlen2] at hi;exact hi) hj) (λi j hi hj=>?_) (λi hi=>?_) (by rw[←e];exact hcap)
  .grind
  .obtain rfl:j=0:=by omega
   have hi':i<ss.length:=by rw[hlen2] at hi;exact hi
   have h1:=hrr i 0 (by rw[hlen];exact hi') (by omega)
   have e1:((ss.map λs=>[AV.v s]).getD i []).getD 0 .junk=.v ss[i]:=by simp[hi']
   rw[e1] at h1
   have e3:ys (i*1+0)=ss[i]:=aZ (ρ:=λ_=>none) (κ:=λ_=>0) (h:=λ_=>none) (.clo h1)
   rw[e3]
   have hx:i<xs.length:=by omega
   have e2:((xs.map λx=>[x]).getD i []).getD 0 .junk=xs.getD i .junk:=by simp[hx]
   rw[e2]
   have:=hr i hi'
   have e4:ss.getD i undef=ss[i]:=by simp[hi']
   rw[e4] at this
   exact this.mono (λ_ h=>.inr h) λ_ _=>rfl
  all_goals grind
structure Mem where
 x0:Option Nat
 ss:List Value
 xs:Nat->Option Nat
 cs:Nat->Nat
def Mem.D (m:Mem) (b:Nat):Prop:=m.x0=some b∨∃i,i<m.ss.length∧m.xs i=some b
structure Dk (w:World) (ls:List (List (List AV))) (v:Value) (m:Mem):Prop where
 root:RC (λb=>m.x0=some b) w (.sl 1 (m.ss.map λs=>[AV.v s])) v
 rows:sI (λb=>m.x0=some b) w 1 ls m.ss m.xs m.cs
 lt:∀b,m.D b->b<w.heap.size
theorem Dk.same {w w':World}{ls:List (List (List AV))}{v:Value}{m:Mem} (h:Dk w ls v m) (hs:w.heap.size<=w'.heap.size) (hw:∀b,m.D b->w'.heap[b]? = w.heap[b]?):Dk w' ls v m:=
 letI:Envs:=⟨[]⟩
 ⟨h.root.mono (λ_ h=>h) λb hb=>hw b (.inl hb),h.rows.mono (λi b hi hb=>(h.rows.row i hi).no hb) λi b hi hb=>hw b (.inr ⟨i,hi,hb⟩),λb hb=>Nat.lt_of_lt_of_le (h.lt b hb) hs⟩
theorem Dk.rd {w:World}{ls:List (List (List AV))}{v:Value}{m:Mem} (h:Dk w ls v m):RC m.D w (.sl 1 (ls.map λr=>[.sl 1 r])) v:=by
 letI:Envs:=⟨[]⟩
 have hl:=h.rows.len
 have:=aDC (D:=λb=>∃i,i<m.ss.length∧m.xs i=some b) (xs:=ls.map λr=>AV.sl 1 r) h.root (by simp[hl]) λj hj=>by
  have hlj:j<ls.length:=by omega
  have e:(ls.map λr=>AV.sl 1 r).getD j .junk=.sl 1 (ls.getD j []):=by simp[hlj]
  rw[e]
  exact(h.rows.row j hj).rc.mono (λb hb=>⟨j,hj,hb⟩) λ_ _=>rfl
 rw[List.map_map] at this
 exact this.mono (λ_ h=>h) λ_ _=>rfl
theorem Dk.nil (w:World):Dk w [] (.slice none 0 0) ⟨none,[],λ_=>none,λ_=>0⟩:=
 ⟨.sl 1 [] none 0 0 0 (λ_=>undef) (by simp) (by simp) (by simp) (by simp) (by simp) ⟨by simp,by decide⟩,⟨rfl,by simp,by simp⟩,λb hb=>by
   rcases hb with h|⟨i,hi,_⟩
   . cases h
   . simp at hi⟩
def aCv (w w':World) (ls:List (List (List AV))) (v:Value):Prop:=∃m,Dk w' ls v m∧∀b,m.D b->w.heap.size<=b
variable {I:Envs}{C1:Ctx}{σ τ:St}{a:Act}{w:World}{S:Nat->Prop}
variable {nt:Nat}{dr:Nat->Array Oper->Option (List Nat)}{Q:Exit->Act->World->Prop}
theorem Pt.grow (h:Pt I C1 σ a w S) {w':World} (hg:mP w w') {D:Nat->Prop} (hD:∀b,D b->w.heap.size<=b∧b<w'.heap.size) (s':List (Nat×AV)) (hs:∀p,p∈s'->p.2=look σ.s p.1∧(flat p.2=true∨fM p.2=true)) :
  Pt (keepE (λb=>S b∨D b) w') C1 ⟨s',σ.h⟩ a w' (λb=>S b∨D b):=
 h.jump (λ_=>False) hg.size (λb hb _=>hg.old b hb) (λ_ h=>h.elim) hg.out (λb hb=>hb.elim (λhb=>⟨Nat.lt_of_lt_of_le (h.dom b hb) hg.size,.inl hb⟩) λhb=>⟨(hD b hb).2,.inr (hD b hb).1⟩) (λb hb=>.inl (h.sub b hb)) s' λp hp=>by
  obtain⟨e,hf|hc⟩:=hs p hp
  .exact .inl ⟨e,hf⟩
  .right
   rw[e] at hc⊢
   exact RC.mono (λb hb=>.inl hb) (λb hb=>hg.old b (h.dom b hb)) (h.val hc)
theorem Pt.le (h:Pt I C1 σ a w S) (hle:LeL σ τ) (hτ:∀p,p∈τ.h->kV p.2∧p.2.fz=false):Pt I C1 τ a w S:=by
 grind [Pt.of_ok,OK.le,Pt]
theorem Pt.ren (h:Pt I C1 σ a w S) {n m:Name} (hn:n≠m) (hf:bG m σ=true) (hτ:∀p,p∈(oJ n m σ).h->kV p.2∧p.2.fz=false):Pt I C1 (oJ n m σ) a w S:=by
 obtain⟨hM,hr,C,ρ,κ,hw0,hS0,hmu,hl,hok⟩:=h
 obtain⟨ρ',κ',h'⟩:=@OK.oJ I C a w S ρ κ σ n m hn hf hok
 exact Pt.of_ok hM hτ hl h'
theorem Pt.out (h:Pt I C1 σ a w S):mP C1.w0 w:=by
 obtain⟨hM,hrr,C,ρ,κ,hw0,hS0,hmu,hl,hok⟩:=h
 exact @OK.grew I _ _ _ _ _ _ _ (@OK.back I _ _ _ _ _ _ _ hl _ hok) λb _=>hM b
theorem Pt.bury (h:Pt I C1 σ a w S) {n:Name}{k:Nat}{rows:List (List AV)} (hb:aA σ.h n=some (.arr k rows false)) (hfl:∀r,r∈rows->iD r=true) {t:Nat} (ht:look σ.s t=.agg [.loc n 0 rows.length]) (hkh:∀p,p∈(dA n σ).h->kV p.2∧p.2.fz=false) :
  ∃ s x c,(∃b m c',s=Value.slice b m c')∧Own (λ_=>False) w x c k rows s∧(∀b,x=some b->C1.w0.heap.size<=b∧b<w.heap.size∧¬S b)∧
   ∀ s':List (Nat×AV),(∀p,p∈s'->(p.2=look (dA n σ).s p.1∧flat p.2=true)∨(p.2=look σ.s p.1∧fM p.2=true)∨p=(t,.agg [.v s]))->
    Pt (keepE (λb=>S b∨x=some b) w) C1 ⟨s',(dA n σ).h⟩ a w (λb=>S b∨x=some b):=by
 have hbase:=h.base
 have hdom:=h.dom
 have hsub:=h.sub
 have hval:∀{t:Nat},fM (look σ.s t)=true->RC S w (look σ.s t) (a.tmps.getD t undef):=λhc=>h.val hc
 obtain⟨hM,hr,C,ρ,κ,hw0,hS0,hmu,hl,hok⟩:=h
 have hs:=@OK.slots I _ _ _ _ _ _ _ hok t
 rw[show σ.f.s t=_ from ht] at hs
 obtain⟨vs,hv,hsz,hrs⟩:=lC hs
 have hr0:RV S w ρ κ σ.f.h (.loc n 0 rows.length) (vs.getD 0 undef):=hrs 0 (by simp)
 have hown:=@OK.own I C a w S ρ κ σ.f hok n k rows hb hfl _ hr0
 have hnS:∀b,ρ n=some b->¬S b:=λb hb'=>hown.no hb'
 have hlt:∀b,ρ n=some b->b<w.heap.size:=λb hb'=>hok.hok.lt (n:=n) (by rw[show σ.f.h n=_ from hb];rfl) hb'
 have hge:∀b,ρ n=some b->C1.w0.heap.size<=b:=λb hb'=>by
  rcases(@OK.back I _ _ _ _ _ _ _ hl _ hok).mine n b (by rw[show σ.f.h n=_ from hb];rfl) hb' with h|h
  .exact h
  .exact(hM b h).elim
 obtain ⟨b0,c0,hsl⟩:∃b0 c0,vs.getD 0 undef=.slice b0 rows.length c0:=by
  obtain⟨_,b1,c1,e,_⟩:=hown.loc k rows false rfl
  exact⟨b1,c1,e⟩
 refine⟨vs.getD 0 undef,ρ n,κ n,⟨_,_,_,hsl⟩,hown.mono (λ_ _ h=>h) (λ_ _=>rfl),λb hb'=>⟨hge b hb',hlt b hb',hnS b hb'⟩,λs' hs'=>?_⟩
 have hkok:@OK I C (dA n σ).f a w S ρ κ:=by rw[mX];exact hok.kill n
 have hkn:∀m,((dA n σ).f.h m).isSome->m≠n∧(σ.f.h m).isSome:=λm hm=>by
  grind [mX,kI]
 obtain ⟨h1,h2⟩:=OK.jump I (keepE (λb=>S b∨ρ n=some b) w) hl hM hkok (λ_=>False) (Nat.le_refl _) (λ_ _ _=>rfl) (λ_ h=>h.elim) ⟨rfl,rfl⟩ (S':=λb=>S b∨ρ n=some b) (λb hb'=>hb'.elim (hdom b) (hlt b)) (λb hb'=>.inl (hsub b hb'))
  (λb hb'=>hb'.elim (hbase b) λh=>.inr (hge b h)) (λb hb' m hm hx=>by
    obtain⟨g1,g2⟩:=hkn m hm
    rcases hb' with h|h
    . obtain⟨b',hb''⟩:=Option.isSome_iff_exists.1 g2
      exact @OK.noS I _ _ _ _ _ _ _ hok _ _ hb'' (hr _ (eX hb'')).2 _ hx h
    . exact g1 (hok.hok.inj m n b g2 (by rw[show σ.f.h n=_ from hb];rfl) hx h)) uU hkh s' (λp hp=>by
    rcases hs' p hp with h|⟨e,hc⟩|rfl
    . exact .inl h
    . grind [RC.mono]
    . right
      show RC _ w (.agg [.v (vs.getD 0 undef)]) (a.tmps.getD t undef)
      rw[hv]
      refine .agg _ _ hsz λj hj=>?_
      obtain rfl:j=0:=by simpa using hj
      exact .v _)
 exact⟨hM,hkh,_,ρ,κ,rfl,rfl,λ_ h=>h,h2,h1⟩
theorem Pt.adopt (h:Pt I C1 σ a w S) {n:Name} (hf:bG n σ=true) {x:Option Nat}{c k:Nat}{rows:List (List AV)}{v:Value} (ho:Own (λ_=>False) w x c k rows v) (hx:∀b,x=some b->C1.w0.heap.size<=b∧S b∧¬C1.S0 b) {t:Nat} (ht:look σ.s t=.v v)
  (hs:∀p,p∈σ.s->flat p.2=true):Pt (keepE (λb=>S b∧x≠some b) w) C1 ⟨(t,.loc n 0 rows.length)::σ.s,(n,.arr k rows false)::σ.h⟩ a w (λb=>S b∧x≠some b):=by
 have hlk:∀(s:List (Nat×AV)),(∀p,p∈s->p.2=look s p.1∨True):=λ_ _ _=>.inr trivial
 have hvv:=h.valv ht
 have hbase:=h.base
 have hno:∀b,S b->∀n,(σ.f.h n).isSome->True:=λ_ _ _ _=>trivial
 have hrows:=h.rows
 have hdom:=h.dom
 have hsub:=h.sub
 obtain⟨hM,hr,C,ρ,κ,hw0,hS0,hmu,hl,hok⟩:=h
 have hnS:∀b,S b->∀m,(σ.f.h m).isSome->ρ m≠some b:=λb hb m hm hxm=>by
  obtain⟨b',hb'⟩:=Option.isSome_iff_exists.1 hm
  exact @OK.noS I _ _ _ _ _ _ _ hok _ _ hb' (hr _ (eX hb')).2 _ hxm hb
 have hmem:∀(s:List (Nat×AV)) t,look s t=.junk∨∃y,(t,y)∈s∧look s t=y:=by
  intro s
  induction s with
  |nil=>intro t;left;rfl
  | cons p r ih =>
   grind [look]
 have hflat:∀t,flat (look σ.s t)=true:=λt=>by
  grind [flat]
 have hb1:=@OK.back I _ _ _ _ _ _ _ hl _ hok
 have hok1:@OK (keepE (λb=>S b∧x≠some b) w) C1 σ.f a w (λb=>S b∧x≠some b) ρ κ:=by
  letI I':Envs:=keepE (λb=>S b∧x≠some b) w
  obtain⟨o1,o2,o3,⟨k1,k2,k3,k4⟩,o5,o6,o7,o8,o9,o10,o11⟩:=hb1
  refine⟨o1,o2,λt=>RV.flatW (o3 t) (hflat t),⟨λm b hb=>?_,k2,λb (hb:S b∧x≠some b)=>k3 b hb.1,uU⟩,o5,o6,o7,λb hb=>(show S b∧x≠some b from⟨o8 b hb,λe=>(hx b e).2.2 hb⟩),λb (hb:S b∧x≠some b)=>o9 b hb.1,o10,o11⟩
  have hk:=k1 m b hb
  have hfb:=(hr _ (eX (show aA σ.h m=some b from hb)))
  cases b with
  | var c z =>
   obtain⟨y,cs,T,fr,g1,g2,g3,g4,g4',g5,g6,g7⟩:=hk
   have hz':z=false:=hfb.2
   subst hz'
   exact⟨y,cs,T,fr,g1,g2,g3,λ_ hy=>g4 rfl hy.1,λh=>(by cases h),g5,g6,λj hj=>⟨(g7 j hj).1,RV.flatW (g7 j hj).2 (bB hfb.1)⟩⟩
  | arr k' l z =>
   have hz':z=false:=hfb.2
   subst hz'
   obtain⟨g0,⟨g1,g2⟩|⟨y,cs,T,fr,g1,g2,g3,g4,g4',g5,g6,g7⟩⟩:=hk
   .exact⟨g0,.inl ⟨g1,g2⟩⟩
   .refine⟨g0,.inr ⟨y,cs,T,fr,g1,g2,g3,λ_ hy=>g4 rfl hy.1,λh=>(by cases h),g5,g6,λi j hi hj=>⟨(g7 i j hi hj).1,RC.flatW (g7 i j hi hj).2 (bB (hfb.1 _ ?_))⟩⟩⟩
    rw[List.getD_eq_getElem?_getD,List.getElem?_eq_getElem hi];exact List.getElem_mem _
 have ho1:Own (λb=>S b∧x≠some b) w x c k rows v:=by
  obtain⟨q1,q2,q3⟩:=ho
  refine⟨q1,?_,q3⟩
  obtain⟨hk,hb⟩:=q2
  refine⟨hk,?_⟩
  all_goals grind [RC.flatW,bB]
 have h2:=@OK.adopt (keepE (λb=>S b∧x≠some b) w) C1 a w (λb=>S b∧x≠some b) ρ κ σ hok1 n hf x c k rows v ho1 (λb hb=>⟨λm hm=>hnS b (hx b hb).2.1 m hm,.inl (hx b hb).1⟩) t hvv
 exact Pt.of_ok hM (λp hp=>by
   rcases List.mem_cons.1 hp with rfl|hp
   . exact⟨ho.fl,rfl⟩
   . exact hr p hp) (Later.refl C1) h2
theorem Pt.cond (h:Pt I C1 σ a w S) {t:Nat}{b:Bool}{x y:aD} (hb:look σ.s t=.v (.bool b)) (hx:b=true->At P nt dr x Q a w) (hy:b=false->At P nt dr y Q a w):At P nt dr (.cond (.tmp t) x y) Q a w:=
 At.cond (t:=b) (by have:=h.valv hb;exact this) hx hy
end
section
section
variable [Envs]
variable {P:Program}{nt:Nat}{dr:Nat->Array Oper->Option (List Nat)}{Q:Exit->Act->World->Prop}{a:Act}{w:World}
def RgL (P:Program) (nt:Nat) (aops:List aH) (Q:Exit->Act->World->Prop) (a:Act) (w:World):Prop:=
 ∀(ops:Array Oper) (L:List Nat),L.length=aops.length->(∀(j:Nat) (ao:aH),aops[j]? = some ao->∃(i:Nat) (o:Oper),L[j]? = some i∧ops[i]? = some o∧gY P nt ops o=some ao.bare)->wpOps P ops Q L a w
theorem RgL.nil (h:Q .normal a w):RgL P nt [] Q a w:=by
 intro ops L hl _
 have:L=[]:=by simpa using hl
 subst this;exact h
theorem RgL.fw {C:Ctx}{K:St->Prop}{post:List aH} (hK:∀(σ:St) (a:Act) (w:World) (S:Nat->Prop) (ρ:Name->Option Nat) (κ:Name->Nat),K σ->OK C σ.f a w S ρ κ->RgL P C.nt post Q a w) :
  ∀(pre:List aH) (σ:St) (a:Act) (w:World) (S:Nat->Prop) (ρ:Name->Option Nat) (κ:Name->Nat),vc P K pre σ->OK C σ.f a w S ρ κ->RgL P C.nt (pre++post) Q a w
 | [],σ,a,w,S,ρ,κ,hv,hok=>hK σ a w S ρ κ hv hok
 | ao::r,σ,a,w,S,ρ,κ,hv,hok=>by
  intro ops L hl hs
  cases L with
  |nil=>simp at hl
  |cons i L =>
  obtain⟨i',o,hi,ho,hc⟩:=hs 0 ao (by simp)
  obtain rfl:i=i':=by simpa using hi
  obtain⟨h1,h2,h3,h4⟩:=dR hc
  rw[wpOps_cons]
  have ih:∀(σ:St) (a:Act) (w:World) (S:Nat->Prop) (ρ:Name->Option Nat) (κ:Name->Nat),vc P K r σ->OK C σ.f a w S ρ κ->wpOps P ops Q L a w:=fun σ a w S ρ κ hv hok =>
   RgL.fw hK r σ a w S ρ κ hv hok ops L (by simpa using hl) (λj ao' hj=>by
     obtain⟨i',o',g1,g2,g3⟩:=hs (j+1) ao' (by simpa using hj)
     exact⟨i',o',by simpa using g1,g2,g3⟩)
  have go:aV P ao.dst σ (vc P K r) ao.op->o.wp P a w (wpOps P ops Q L) Q:=λhst =>
   Oper.wp_mono (λa' w' ⟨σ',S',ρ',κ',hK,hok'⟩=>ih σ' a' w' S' ρ' κ' hK hok') (oG (P:=P) h1 hok h3 (by rw[h2];exact hst))
  unfold wpOp
  rw[ho]
  simp only[vc] at hv
  rcases h4 with⟨g1,g2⟩|⟨j,want,t,g1,g2,g3⟩
  .rw[g2] at hv
   have:Region.wanted o (yielded ops a.tmps)=true:=by simp[Region.wanted,g1]
   simp only[this,if_true]
   exact .inl (go hv)
  .rw[g2] at hv
   simp only at hv
   split at hv
   .rename_i b hb
    have hw:=qQ hok g1 g3 hb
    simp only[hw]
    by_cases hbw:b=want
    .simp only[hbw,beq_self_eq_true,if_true]
     exact .inl (go ((gX.1 hv).1 hbw))
    .have:(b==want)=false:=by simpa using hbw
     simp only[this,Bool.false_eq_true,if_false]
     have hn:b = !want:=by cases b<;>cases want<;>simp_all
     refine ih _ _ _ S ρ κ ((gX.1 hv).2 hn) ?_
     have:=hok.put (x:=.v undef) (v:=undef) (.clo (.v _)) h3
     rw[h2] at this⊢
     simpa[St.f,fU,undef] using this
   .rename_i cs hb
    have hw:=qP hok g1 g3 hb
    simp only[hw,Bool.false_eq_true,if_false]
    refine ih _ _ _ S ρ κ hv ?_
    have:=hok.put (x:=.v undef) (v:=undef) (.clo (.v _)) h3
    rw[h2] at this⊢
    simpa[St.f,fU,undef] using this
   .exact hv.elim
theorem RgL.op {o:aH}{r:List aH} (hg:o.guard=none) (h:∀(op:Oper) (ops:Array Oper),gY P nt ops op=some o.bare->op.wp P a w (RgL P nt r Q) Q):RgL P nt (o::r) Q a w:=by
 intro ops L hl hs
 cases L with
 |nil=>simp at hl
 |cons i L =>
 obtain⟨i',op,hi,ho,hc⟩:=hs 0 o (by simp)
 obtain rfl:i=i':=by simpa using hi
 obtain⟨_,_,_,h4⟩:=dR hc
 have hg2:op.guard=none:=by
  rcases h4 with⟨h,_⟩|⟨j,want,t,_,h,_⟩
  .exact h
  .rw[hg] at h;cases h
 rw[wpOps_cons]
 unfold wpOp
 rw[ho]
 have:Region.wanted op (yielded ops a.tmps)=true:=by simp[Region.wanted,hg2]
 simp only[this,if_true]
 exact .inl (Oper.wp_mono (λa' w' hr=>hr ops L (by simpa using hl) λj ao' hj=>by
   obtain⟨i',o',g1,g2,g3⟩:=hs (j+1) ao' (by simpa using hj)
   exact⟨i',o',by simpa using g1,g2,g3⟩) (h op ops hc))
theorem At.rg {aops:List aH}{out:List Nat} (h:RgL P nt aops Q a w):At P nt dr (.region aops out []) Q a w:=by
 intro c hc hzc
 cases c
 case region id ops draw =>
  simp only[aU,aD.bare] at hc
  split at hc
  .rename_i fl' hdraw
   cases ho:vD P nt ops ops.toList with
   |none=>rw[ho] at hc;cases hc
   | some l =>
    rw[ho] at hc
    simp only[Option.map_some,Option.some.injEq,aD.region.injEq,true_and] at hc
    obtain⟨hl,hfl⟩:=hc
    subst hl;subst hfl
    cases draw with
    | true =>
     have hd:dr nt ops=some []:=by simpa using hdraw
     simp[zB,hd] at hzc
    | false =>
     obtain⟨g1,g2⟩:=gW ho
     have hlen:ops.size=aops.length:=by simpa using g1
     refine wp_region (h ops _ (by rw[List.length_range,hlen]) λj ao hj=>?_)
     obtain⟨o,q1,q2⟩:=g2 j ao hj
     have hjl:j<ops.size:=by
      rw[hlen]
      rcases Nat.lt_or_ge j aops.length with h|h
      .exact h
      .simp[List.getElem?_eq_none h] at hj
     exact⟨j,o,by simp[hjl],by simpa using q1,q2⟩
  .cases hc
 all_goals(simp only[aU,aD.bare] at hc;first|(cases hc;done)|(split at hc<;>simp at hc)|(simp at hc))
def vO (ops:Array Oper):Nat->Array Bool->List (List Nat)
 |0,_=>[[]]
 | fuel+1,listed =>
  match(List.range ops.size).filter λi=>!listed.getD i true&&((ops[i]?).map (·.after.all λe=>!Region.binds .any e||listed.getD e.on false)).getD false with
  | []=>[[]]
  |rs=>rs.flatMap λi=>(vO ops fuel (listed.setIfInBounds i true)).map (i :: ·)
theorem yY (ops:Array Oper):∀(fuel t:Nat) (listed:Array Bool) (acc:List Nat),∃L,L∈vO ops fuel listed∧Region.linearise.go .any ops fuel t listed acc=acc.reverse++L
 |0,t,listed,acc=>⟨[],by simp[vO],by simp[Region.linearise.go]⟩
 | fuel+1,t,listed,acc=>by
  simp only[Region.linearise.go,vO]
  generalize hrs:((List.range ops.size).filter λi=>!listed.getD i true&&((ops[i]?).map (·.after.all λe=>!Region.binds .any e||listed.getD e.on false)).getD false)=rs
  cases rs with
  |nil=>exact⟨[],by simp,by simp⟩
  | cons x xs =>
   have hlt:t%(x::xs).length<(x::xs).length:=Nat.mod_lt _ (by simp)
   rw[List.getElem?_eq_getElem hlt]
   obtain⟨L,h1,h2⟩:=yY ops fuel (t/(x::xs).length) (listed.setIfInBounds ((x::xs)[t%(x::xs).length]) true) ((x::xs)[t%(x::xs).length]::acc)
   refine⟨(x::xs)[t%(x::xs).length]::L,?_,?_⟩
   .exact List.mem_flatMap.2 ⟨_,List.getElem_mem hlt,List.mem_map.2 ⟨L,h1,rfl⟩⟩
   .simp only[h2];simp
def aGy (ops:Array Oper):List (List Nat):=vO ops ops.size (Array.replicate ops.size false)
theorem aBL (ops:Array Oper) (t:Nat):Region.schedule true ops t∈aGy ops:=by
 obtain⟨L,h1,h2⟩:=yY ops ops.size t (Array.replicate ops.size false) []
 have e:Region.schedule true ops t=L:=by
  simp only[Region.schedule,Bool.true_or,if_true,Region.linearise]
  simpa using h2
 rw[e]
 exact h1
end
variable {P:Program}{nt:Nat}{dr:Nat->Array Oper->Option (List Nat)}{Q:Exit->Act->World->Prop}{a:Act}{w:World}
variable {I:Envs}{C1:Ctx}{σ τ:St}{S:Nat->Prop}
theorem Pt.drew (h:Pt I C1 σ a w S):Pt I C1 σ a {w with drawn:=w.drawn+1} S:=by
 obtain⟨hM,hr,C,ρ,κ,hw0,hS0,hmu,hl,hok⟩:=h
 exact Pt.of_ok hM hr hl (@OK.ext I C σ.f a w {w with drawn:=w.drawn+1} S ρ κ hok (Ext.of_heap rfl rfl rfl))
theorem Past.drew:Past S w S {w with drawn:=w.drawn+1}:=⟨λ_ h=>h,λ_ _=>rfl,Nat.le_refl _⟩
theorem Pt.rg (hp:Pt I C1 σ a w S) (hnt:C1.nt=nt) {pre post:List aH} (hτ:∀p,p∈τ.h->kV p.2∧p.2.fz=false) (hv:@vc I P (fun σ'=>LeL σ' τ) pre σ)
  (h:∀a' w' S',Past S w S' w'->Pt I C1 τ a' w' S'->RgL P nt post Q a' w'):RgL P nt (pre++post) Q a w:=by
 have hp':=hp
 obtain⟨hM,hr,C,ρ,κ,hw0,hS0,hmu,hla,hok⟩:=hp
 have hCnt:C.nt=nt:=hla.nt.trans hnt
 have hno:∀b,S b->b<w.heap.size∧¬C.Mut b:=λb hb=>⟨hp'.dom b hb,λhm=>by
   obtain⟨n,hn,hx⟩:=hmu b hm
   obtain⟨b',hb'⟩:=Option.isSome_iff_exists.1 hn
   exact @OK.noS I _ _ _ _ _ _ _ hok _ _ hb' (hr _ (eX hb')).2 _ hx hb⟩
 subst hCnt
 refine @RgL.fw I P Q C (fun σ'=>LeL σ' τ) post (fun σ' a' w' S' ρ' κ' hle hok'=>?_) pre σ a w S ρ κ hv hok
 have hok2:=@OK.le I _ _ _ _ _ _ _ _ hok' hle
 exact h a' w' S' (Pt.later hw0 hS0 hno hok2) (Pt.of_ok hM hτ hla hok2)
end
section
variable {P:Program}{nt:Nat}{Q:Exit->Act->World->Prop}{a:Act}{w:World}{S:Nat->Prop}
theorem Pt.calls [I:Envs] {dr:Nat->Array Oper->Option (List Nat)}{f:FuncId}{fn:Func}{body:Code}{ac:aD} (hf:P.funcs[f]? = some fn) (hb:fn.body=some body) (hc:aU P fn.ntmps dr body=some ac.bare) (hz:zB fn.ntmps dr body=true) {args:List AV} (hna:args.length<=fn.ntmps)
  {vs:Array Value} (hS:∀b,S b->b<w.heap.size) (he:Env S w) (hvs:vs.size=args.length) (hargs:∀j,j<args.length->RC S w (args.getD j .junk) (vs.getD j undef)) {R:Ending->World->Prop}
  (h : ∀(C1:Ctx) (a:Act),C1.nt=fn.ntmps->C1.w0=w->C1.S0=S->Pt I C1 ⟨ini 0 args,[]⟩ a w S->
    At P fn.ntmps dr ac (λe a' w'=>(e=.ret∨e=.normal)∧a'.defers=[]∧∃v,(results fn a'.tmps).run P w'=.ok v w'∧R (.returned v) w') a w):Calls P f vs w R:=
 aEC hf hb hc hz hna hS he hvs hargs (λ_=>False) λa hok=>h _ a rfl rfl rfl (Pt.of_ok (λ_ h=>h) (λp hp=>by cases hp) (Later.refl _) hok)
theorem OK.exposeP [Envs] {C:Ctx}{ρ:Name->Option Nat}{κ:Name->Nat}{σ:FSt} (hok:OK C σ a w S ρ κ) {n:Name}{k len:Nat}{rows:List (List AV)}{z:Bool} (hb:σ.h n=some (.arr k rows z)) (hfl:∀r,r∈rows->iD r=true) {v:Value} (hv:RV S w ρ κ σ.h (.loc n 0 len) v) :
  RC (λb=>ρ n=some b) w (.sl k (rows.take len)) v:=by
 have hl:=d9 hv k rows z hb
 obtain⟨h0,base,cap,rfl,h1,h2,h3,_⟩:=hl
 have hlen:(rows.take len).length=len:=by rw[List.length_take];omega
 obtain⟨hrk,hblk⟩:=hok.hok.blk n _ hb
 have e:∀i,i<len->(rows.take len).getD i []=rows.getD i []:=λi hi=>by simp[hi]
 have key:RC (λb=>ρ n=some b) w (.sl k (rows.take len)) (.slice base (rows.take len).length cap):=by
  rcases hblk with⟨hn,hnil⟩|⟨x,cs,T,fr,g1,g2,g3,_,_,g5,g6,g7⟩
  .subst hnil
   have:List.take len ([]:List (List AV))=[]:=by simp
   rw[this]
   refine .sl k [] base cap 0 0 (λ_=>undef) (by simp) (by simp) (by simp) (by simp) (by simp) ⟨by simp,h2⟩
  .refine .sl k _ base cap x 0 (λi=>cs.getD i undef) (λhne=>?_) (λi j hi hj=>?_) (λi j hi hj=>(g7 i j (by omega) hj).1) (λi j hi hj=>?_) (λi hi=>?_) ⟨by omega,h2⟩
   .have:0<len:=by have:=List.length_pos_iff.2 hne;omega
    obtain⟨y,hy,hbase⟩:=h3 this
    rw[g1] at hy
    obtain rfl:=Option.some.inj hy
    exact⟨by rw[hbase];simp,g1⟩
   .have hlt:i*k+j<cs.size:=by
     have:i*k+k<=rows.length*k:=by rw[←Nat.succ_mul];exact Nat.mul_le_mul_right k (by omega)
     omega
    simp[World.cell?,g2,hlt]
   .rw[e i (by omega)]
    refine((g7 i j (by omega) hj).2).flat ?_
    have hm:rows.getD i []∈rows:=by
     rw[List.getD_eq_getElem?_getD,List.getElem?_eq_getElem (by omega)];exact List.getElem_mem _
    exact bB (hfl _ hm)
   .rw[e i (by omega)];exact hrk i (by omega)
 rw[hlen] at key
 exact key
theorem Fn.resAs [Envs] {f:FuncId}{hin:List Blk}{ys:List AV}{r r':AV}{hout:List (Option Blk)} (h:Fn P f hin ys r hout) (hc:fM r=true) (hr:∀S w v,RC S w r v->RC S w r' v):Fn P f hin ys r' hout:=
 ⟨h.1,λS w ρ κ vs hok hfz hvs ha=>(h.2 S w ρ κ vs hok hfz hvs ha).mono λe w' he=>by
   obtain⟨v',S',ρ',κ',h1,h2,h3⟩:=he
   exact⟨v',S',ρ',κ',h1,h2,.clo (hr S' w' v' (RV.closed h3 hc))⟩⟩
variable {I:Envs}{C1:Ctx}{σ τ:St}
theorem Pt.resRow (h:Pt I C1 σ a w S) {fn:Func}{n:Name}{k len:Nat}{rows:List (List AV)}{c:Value} (hb:aA σ.h n=some (.arr k rows false)) (hfl:∀r,r∈rows->iD r=true)
  (hr:tL P σ (λxs=>tT xs=.tup [.loc n 0 len,.v c]) fn.results.toList) :
  a.defers=[]∧∃v x,(results fn a.tmps).run P w=.ok (.tuple #[v,c]) w∧RC (λb=>x=some b) w (.sl k (rows.take len)) v∧∀b,x=some b->C1.w0.heap.size<=b∧b<w.heap.size∧¬S b:=by
 obtain⟨hM,hrr,C,ρ,κ,hw0,hS0,hmu,hl,hok⟩:=h
 refine⟨@OK.defers I _ _ _ _ _ _ _ hok,?_⟩
 obtain⟨y,u,hx,hxv,hrun⟩:=wH (P:=P) hok (fn:=fn) (K:=λy=>y=.tup [.loc n 0 len,.v c]) hr
 subst hx
 obtain ⟨v,rfl,hv⟩:∃v,u=.tuple #[v,c]∧RV S w ρ κ σ.f.h (.loc n 0 len) v:=by
  have key:∃vs:Array Value,u=.tuple vs∧vs.size=2∧RV S w ρ κ σ.f.h (.loc n 0 len) (vs.getD 0 undef)∧vs.getD 1 undef=c:=by
   cases hxv with
   | clo h=>cases h with
    |tup _ vs hl hr=>have:=hr 0 (by simp);cases this
   |tup _ vs hl hr=>exact⟨vs,rfl,by simpa using hl.symm,by simpa using hr 0 (by simp),aZ (by simpa using hr 1 (by simp))⟩
  obtain⟨vs,rfl,h2,h3,h4⟩:=key
  obtain⟨l⟩:=vs
  match l,h2 with
  | [x,y],_ =>
   refine⟨x,?_,by simpa using h3⟩
   have:y=c:=by simpa using h4
   rw[this]
 refine⟨v,ρ n,hrun,@OK.exposeP a w S I C ρ κ σ.f hok n k len rows false hb hfl v hv,λb hb'=>⟨?_,hok.hok.lt (n:=n) (by rw[show σ.f.h n=_ from hb];rfl) hb',?_⟩⟩
 .rcases(@OK.back I _ _ _ _ _ _ _ hl _ hok).mine n b (by rw[show σ.f.h n=_ from hb];rfl) hb' with h|h
  .exact h
  .exact(hM b h).elim
 .exact @OK.noS I _ _ _ _ _ _ _ hok _ _ hb rfl _ hb'
theorem aE3 {v c u:Value} (h:RC S w (.tup [.v v,.v c]) u):u=.tuple #[v,c]:=by
 letI:Envs:=⟨[]⟩
 have key:∃vs:Array Value,u=.tuple vs∧vs.size=2∧vs.getD 0 undef=v∧vs.getD 1 undef=c:=by
  cases h with
  |tup _ vs hl hr=>exact⟨vs,rfl,by simpa using hl.symm,aZ (ρ:=λ_=>none) (κ:=λ_=>0) (h:=λ_=>none) (.clo (by simpa using hr 0 (by simp))),aZ (ρ:=λ_=>none) (κ:=λ_=>0) (h:=λ_=>none) (.clo (by simpa using hr 1 (by simp)))⟩
 obtain⟨vs,rfl,h2,h3,h4⟩:=key
 obtain⟨l⟩:=vs
 match l,h2 with
 | [x,y],_ =>
  have e1:x=v:=by simpa using h3
  have e2:y=c:=by simpa using h4
  rw[e1,e2]
def DkRes (w:World) (ls:List (List (List AV))) (e:Ending) (w':World):Prop:=∃v,e=.returned (.tuple #[v,.int .i64 0])∧mP w w'∧aCv w w' ls v
theorem aCv.later {w1 w2 w3:World}{ls:List (List (List AV))}{v:Value}{m:Mem} (hd:Dk w2 ls v m) (hn:∀b,m.D b->w1.heap.size<=b) {S S':Nat->Prop} (hS:∀b,m.D b->S b) (hp:Past S w2 S' w3):aCv w1 w3 ls v:=
 ⟨m,hd.same hp.size λb hb=>hp.old b (hS b hb),hn⟩
theorem Past.grow {w':World}{D:Nat->Prop} (hg:mP w w') (hS:∀b,S b->b<w.heap.size):Past S w (λb=>S b∨D b) w':=⟨λ_ h=>.inl h,λb hb=>hg.old b (hS b hb),hg.size⟩
theorem Fn.calls0 [Envs] {f:FuncId}{ys:List AV}{r:AV} (h:Fn P f [] ys r []) (hc:fM r=true) {vs:Array Value} (hS:∀b,S b->b<w.heap.size) (he:Env S w) (hvs:vs.size=ys.length) (hargs:∀j,j<ys.length->RC S w (ys.getD j .junk) (vs.getD j undef)) :
  Calls P f vs w λe w'=>∃v S',e=.returned v∧mP w w'∧RC S' w' r v:=by
 have hnone:∀n,Hn (([]:List Blk).map some) n=none:=by
  intro n
  cases n<;>simp[Hn]
 have hok1:HOK S w (λ_=>none) (λ_=>0) (Hn (([]:List Blk).map some)):=
  ⟨λn b hb=>(by rw[hnone] at hb;cases hb),λn m y hn _ _ _=>(by rw[hnone] at hn;cases hn),hS,he⟩
 refine(h.2 S w _ _ vs hok1 (by simp) hvs λj hj=>.clo (hargs j hj)).mono ?_
 rintro e w' ⟨u,S',ρ',κ',rfl,hp,hu⟩
 exact⟨u,S',rfl,⟨hp.size,λb hb=>hp.old b hb aCL,hp.out⟩,RV.closed hu hc⟩
def aBO (w:World) (ls:List (List (List AV))) (c:Value) (e:Ending) (w':World):Prop:=∃v,e=.returned (.tuple #[v,c])∧mP w w'∧aCv w w' ls v
theorem Fn.noDk [Envs] {f:FuncId}{ys:List AV}{c:Value} (h:Fn P f [] ys (.tup [.v (.slice none 0 0),.v c]) []) {vs:Array Value} (hS:∀b,S b->b<w.heap.size) (he:Env S w) (hvs:vs.size=ys.length) (hargs:∀j,j<ys.length->RC S w (ys.getD j .junk) (vs.getD j undef)) :
  Calls P f vs w (aBO w [] c):=by
 refine(h.calls0 rfl hS he hvs hargs).mono ?_
 rintro e w' ⟨v,S',rfl,hg,hv⟩
 have:=aE3 hv
 subst this
 exact ⟨_,rfl,hg,_,Dk.nil w',λb hb=>by
   rcases hb with h|⟨i,hi,_⟩
   . cases h
   . simp at hi⟩
end
section
theorem At.closing {P:Program}{nt:Nat}{dr:Nat->Array Oper->Option (List Nat)}{n:Nat}{x:aD}{Q:Exit->Act->World->Prop}{a:Act}{w:World} (h:At P nt dr x Q a w):At P nt dr (.closing n x) Q a w:=h
section
variable [Envs]
variable {P:Program}{nt:Nat}{Q:Exit->Act->World->Prop}
theorem vI {ops:Array Oper}{i:Nat}{oi:Oper}{v:Value} (hi:ops[i]? = some oi) (hsi:∀cs b,oi.op≠.select cs b) (hQ:∀c a w,¬Q (.panic c) a w) :
  ∀(L1 L2:List Nat) (a:Act) (w:World),(∀j,j∈L1->∃oj,ops[j]? = some oj∧oi.apart ops oj=true∧∀cs b,oj.op≠.select cs b)->Yields P ops oi v a->wpOps P ops Q (L1++L2) (a.put oi.dst v) w->wpOps P ops Q (L1++i::L2) a w
 | [],L2,a,w,_,hy,h=>by
  show wpOps P ops Q (i::L2) a w
  rw[wpOps_cons]
  exact hy.wpOp hi h
 | j::L1,L2,a,w,hL,hy,h=>by
  obtain⟨oj,hj,hap,hsj⟩:=hL j List.mem_cons_self
  show wpOps P ops Q (j::(L1++i::L2)) a w
  rw[wpOps_cons]
  have h':wpOps P ops Q (j::(L1++L2)) (a.put oi.dst v) w:=h
  rw[wpOps_cons] at h'
  refine wpOp_mono (λa' w' hk=>?_) (wpOp_put hj hap hsi hsj (λc a w hq=>(hQ c _ _ hq).elim) hy h')
  exact vI hi hsi hQ L1 L2 a' w' (λj hj=>hL j (List.mem_cons_of_mem _ hj)) hk.1 hk.2
def aB7 (o:Oper):Bool:=match o.op with
 |.select _ _=>false
 |_=>true
theorem xE {o:Oper} (h:aB7 o=true):∀cs b,o.op≠.select cs b:=by
 intro cs b e
 simp[aB7,e] at h
end
section
variable [I:Envs]
variable {P:Program}{nt:Nat}{Q:Exit->Act->World->Prop}{a:Act}{w:World}
end
variable {P:Program}{I:Envs}{C1:Ctx}{σ τ:St}{S:Nat->Prop}{a:Act}{w:World}
theorem Pt.mv (h:Pt I C1 σ a w S) {d s:Nat} (hd:d<C1.nt):Pt I C1 ⟨(d,look σ.s s)::σ.s,σ.h⟩ (a.put (some d) (a.tmps.getD s undef)) w S:=by
 obtain⟨hM,hr,C,ρ,κ,hw0,hS0,hmu,hl,hok⟩:=h
 refine⟨hM,hr,C,ρ,κ,hw0,hS0,hmu,hl,?_⟩
 have:=@OK.put I C σ.f a w S ρ κ hok (look σ.s s) (a.tmps.getD s undef) (@OK.slots I _ _ _ _ _ _ _ hok s) (some d) (λd' hd'=>by
   obtain rfl:=Option.some.inj hd'
   rw[hl.nt];exact hd)
 have e:(⟨(d,look σ.s s)::σ.s,σ.h⟩:St).f=⟨upd σ.f.s (some d) (look σ.s s),σ.f.h⟩:=by
  simp[St.f,look,upd,eq_comm]
 rw[e]
 exact this
theorem Fn.of_dk [Envs] {f:FuncId}{args:List AV}{ls:List (List (List AV))}{c:Value} (hb:lH P f) (hc:∀x,x∈args->fM x=true)
  (h:∀(S:Nat->Prop) (w:World) (vs:Array Value),(∀b,S b->b<w.heap.size)->Env S w->vs.size=args.length->(∀j,j<args.length->RC S w (args.getD j .junk) (vs.getD j undef))->Calls P f vs w (aBO w ls c)) :
  Fn P f [] args (.tup [.sl 1 (ls.map λr=>[.sl 1 r]),.v c]) []:=by
 refine⟨hb,λS w ρ κ vs hok _ hvs hargs=>(h S w vs hok.dom hok.env hvs λj hj=>(hargs j hj).closed (hc _ ?_)).mono ?_⟩
 .rw[List.getD_eq_getElem?_getD,List.getElem?_eq_getElem hj];exact List.getElem_mem _
 .rintro e w' ⟨v,rfl,hg,m,hd,hn⟩
  have hnone:∀n,Hn ([]:List (Option Blk)) n=none:=by
   intro n
   cases n<;>simp[Hn]
  refine⟨_,λb=>S b∨m.D b,λ_=>none,λ_=>0,rfl,⟨⟨λn b hb=>(by rw[hnone] at hb;cases hb),λn m y hn _ _ _=>(by rw[hnone] at hn;cases hn),λb hb=>hb.elim (λh=>Nat.lt_of_lt_of_le (hok.dom b h) hg.size) (hd.lt b),(hg.env hok.dom hok.env).mono (λ_ h=>.inl h) λ_ _=>rfl⟩,hg.size,λb hb _=>hg.old b hb,λ_ h=>.inl h,λb hb=>hb.elim .inl λh=>.inr (.inl (hn b h)),λj x hj=>(by simp at hj),hg.out,λj b' hj=>(by simp at hj)⟩,.clo ?_⟩
  refine .tup _ _ rfl λj hj=>?_
  match j,hj with
  |0,_=>exact hd.rd.mono (λ_ h=>.inr h) λ_ _=>rfl
  |1,_=>exact .v _
end
section
theorem Fn.of_new [Envs] {P:Program}{f:FuncId}{args:List AV}{r:AV} (hb:lH P f) (hc:∀x,x∈args->fM x=true)
  (h:∀(S:Nat->Prop) (w:World) (vs:Array Value),(∀b,S b->b<w.heap.size)->Env S w->vs.size=args.length->(∀j,j<args.length->RC S w (args.getD j .junk) (vs.getD j undef))->Calls P f vs w λe w'=>∃(v:Value) (D:Nat->Prop),e=.returned v∧mP w w'∧(∀b,D b->w.heap.size<=b∧b<w'.heap.size)∧RC D w' r v) :
  Fn P f [] args r []:=by
 refine⟨hb,λS w ρ κ vs hok _ hvs hargs=>(h S w vs hok.dom hok.env hvs λj hj=>(hargs j hj).closed (hc _ ?_)).mono ?_⟩
 .rw[List.getD_eq_getElem?_getD,List.getElem?_eq_getElem hj];exact List.getElem_mem _
 .rintro e w' ⟨v,D,rfl,hg,hD,hv⟩
  have hnone:∀n,Hn ([]:List (Option Blk)) n=none:=by
   intro n
   cases n<;>simp[Hn]
  exact⟨_,λb=>S b∨D b,λ_=>none,λ_=>0,rfl,⟨⟨λn b hb=>(by rw[hnone] at hb;cases hb),λn m y hn _ _ _=>(by rw[hnone] at hn;cases hn),λb hb=>hb.elim (λh=>Nat.lt_of_lt_of_le (hok.dom b h) hg.size) λh=>(hD b h).2,(hg.env hok.dom hok.env).mono (λ_ h=>.inl h) λ_ _=>rfl⟩,hg.size,λb hb _=>hg.old b hb,λ_ h=>.inl h,λb hb=>hb.elim .inl λh=>.inr (.inl (hD b h).1),λj x hj=>(by simp at hj),hg.out,λj b' hj=>(by simp at hj)⟩,.clo (hv.mono (λ_ h=>.inr h) λ_ _=>rfl)⟩
end
section
section
variable [Envs]
variable {P:Program}{nt:Nat}{Q:Exit->Act->World->Prop}
end
section
variable [I:Envs]
variable {P:Program}{nt:Nat}{Q:Exit->Act->World->Prop}{a:Act}{w:World}
end
variable {P:Program}{nt:Nat}{Q:Exit->Act->World->Prop}{a:Act}{w:World}
variable {I:Envs}{C1:Ctx}{σ:St}{S:Nat->Prop}
end
section
section
variable [Envs]
variable {P:Program}
theorem mP.alloc (w:World) (o:Obj):mP w (w.alloc o):=
 ⟨by show w.heap.size<=(w.heap.push o).size;simp,λb hb=>by show(w.heap.push o)[b]? = _;simp[Array.getElem?_push,Nat.ne_of_lt hb],rfl,rfl⟩
open Go.RowKit in
theorem mP.of_below {w w':World} (h:Below w.heap.size w w'):mP w w':=⟨h.size,h.block,h.os,h.output⟩
end
end
section
section
variable [Envs]
variable {P:Program}
open Go.RowKit
theorem aFn {w:World}{x j:Nat}{cs:Array Value}{T:TypeId}{fr:Nat×Nat} (h:w.heap[x]? = some (.cells cs T fr)) (hj:j<cs.size):w.cell? ⟨x,j,none⟩=some (cs.getD j undef):=by
 simp[World.cell?,h,hj]
end
end
section
variable {P:Program}{I:Envs}{C1:Ctx}{σ τ:St}{a:Act}{w:World}{S:Nat->Prop}
theorem rP.of_own {S:Nat->Prop}{w:World}{x:Option Nat}{c k:Nat}{rows:List (List AV)}{v:Value} (ho:Own S w x c k rows v) {ρ:Name->Option Nat}{κ:Name->Nat}{h:Name->Option Blk}{n:Name} (h1:ρ n=x) (h2:κ n=c) (h3:h n=some (.arr k rows false)):rP ρ κ h n 0 rows.length v:=by
 intro k' l' z' hl
 rw[h3] at hl
 obtain⟨rfl,rfl,rfl⟩:k=k'∧rows=l'∧false=z':=by simpa using hl
 have:=ho.loc k rows false rfl
 subst h1;subst h2
 exact this
end
section
variable {P:Program}
section
variable [Envs]
end
end
section
variable {P:Program}
section
variable [Envs]
end
end
section
variable {P:Program}
variable [Envs]
end
section
section
variable [Envs]
variable {P:Program}{nt:Nat}{Q:Exit->Act->World->Prop}
end
section
variable [I:Envs]
variable {P:Program}{nt:Nat}{Q:Exit->Act->World->Prop}{a:Act}{w:World}
end
end
section
def nE (E:List (List Nat)) (T:List Nat) (i:Nat):Bool:=(E.getD i []).all λk=>!T.contains k
def OrK (E:List (List Nat)) (T R:List Nat) (f:Nat->Prop) (_:Tag f):Prop:=∀i,i∈R->nE E T i=true->f i
theorem OrK.nil {E:List (List Nat)}{T:List Nat}{f:Nat->Prop}{t:Tag f}:OrK E T [] f t:=λi hi=>by cases hi
theorem OrK.yes {E:List (List Nat)}{T r:List Nat}{f:Nat->Prop}{t:Tag f}{x:Nat} (_:nE E T x=true) (h1:f x) (h2:OrK E T r f t):OrK E T (x::r) f t:=λi hi hr=>by
 rcases List.mem_cons.1 hi with rfl|hi
 .exact h1
 .exact h2 i hi hr
theorem OrK.no {E:List (List Nat)}{T r:List Nat}{f:Nat->Prop}{t:Tag f}{x:Nat} (h:nE E T x=false) (h2:OrK E T r f t):OrK E T (x::r) f t:=λi hi hr=>by
 rcases List.mem_cons.1 hi with rfl|hi
 .rw[h] at hr;cases hr
 .exact h2 i hi hr
def okL (E:List (List Nat)):List Nat->List Nat->Prop
 |T,[]=>T=[]
 |T,i::L=>i∈T∧nE E T i=true∧okL E (T.erase i) L
theorem aAI {E E':List (List Nat)} (h:∀i k,k∈E'.getD i []->k∈E.getD i []):∀{L T:List Nat},okL E T L->okL E' T L
 | [],_,hl=>hl
 | i :: L,T,⟨h1,h2,h3⟩=>⟨h1,by
     unfold nE at h2⊢
     exact List.all_eq_true.2 λk hk=>List.all_eq_true.1 h2 k (h i k hk),aAI h h3⟩
theorem xD {E:List (List Nat)} (p:Nat->Bool):∀{L T:List Nat},T.Nodup->okL E T L->okL E (T.filter p) (L.filter p)
 | [],T,_,h=>by
  obtain rfl:T=[]:=h
  rfl
 | i::L,T,hn,⟨h1,h2,h3⟩=>by
  have ih:=xD p (hn.erase i) h3
  by_cases hp:p i=true
  .rw[List.filter_cons_of_pos hp]
   refine⟨List.mem_filter.2 ⟨h1,hp⟩,?_,?_⟩
   .unfold nE at h2⊢
    refine List.all_eq_true.2 λk hk=>?_
    have:=List.all_eq_true.1 h2 k hk
    simp only[Bool.not_eq_true',List.contains_eq_mem,decide_eq_false_iff_not] at this⊢
    exact λh=>this (List.mem_filter.1 h).1
   .rw[hn.erase_eq_filter,List.filter_filter] at ih
    rw[List.Nodup.erase_eq_filter (hn.filter p),List.filter_filter]
    have e:(List.filter (λa=>p a&&(a != i)) T)=(List.filter (λa=>(a != i)&&p a) T):=List.filter_congr λx _=>by cases p x<;>cases(x != i)<;>rfl
    first|exact ih|(rw[e] at ih;exact ih)|(rw[←e] at ih;exact ih)
  .rw[List.filter_cons_of_neg hp]
   rw[hn.erase_eq_filter,List.filter_filter] at ih
   have e:List.filter (λa=>p a&&(a != i)) T=List.filter p T:=List.filter_congr λx _=>by
    by_cases hx:x=i
    .subst hx;simp at hp;simp[hp]
    .simp[hx]
   rw[e] at ih
   exact ih
theorem uR {E:List (List Nat)}:∀{L T:List Nat},T.Nodup->okL E T L->L.Nodup∧∀j,j∈L↔j∈T
 | [],T,_,h=>by
  obtain rfl:T=[]:=h
  simp
 | i::L,T,hn,⟨h1,_,h3⟩=>by
  obtain⟨g1,g2⟩:=uR (hn.erase i) h3
  refine⟨List.nodup_cons.2 ⟨λhi=>?_,g1⟩,λj=>?_⟩
  .have:=(g2 i).1 hi
   rw[hn.mem_erase_iff] at this
   exact this.1 rfl
  .rw[List.mem_cons,g2 j,hn.mem_erase_iff]
   constructor
   .rintro(rfl|h)
    .exact h1
    .exact h.2
   .intro h
    by_cases e:j=i
    .exact .inl e
    .exact .inr ⟨e,h⟩
theorem aB6 {E:List (List Nat)}:∀{A T:List Nat}{j:Nat}{B:List Nat},T.Nodup->okL E T (A++j::B)->∀k,k∈E.getD j []->k∈T->k∈A
 | [],T,j,B,_,h,k,hk,hT=>by
  have:=List.all_eq_true.1 h.2.1 k hk
  simp only[Bool.not_eq_true',List.contains_eq_mem,decide_eq_false_iff_not] at this
  exact(this hT).elim
 | i::A,T,j,B,hn,h,k,hk,hT=>by
  by_cases e:k=i
  .subst e;exact List.mem_cons_self
  .exact List.mem_cons_of_mem _ (aB6 (hn.erase i) h.2.2 k hk (hn.mem_erase_iff.2 ⟨e,hT⟩))
def edL (ops:Array Oper):List (List Nat):=(List.range ops.size).map λi=>((ops[i]?).map λo=>(o.after.toList.filter λe=>Region.binds .any e).map (·.on)).getD []
theorem aAf {ops:Array Oper}{i:Nat}{o:Oper} (h:ops[i]? = some o):(edL ops).getD i []=(o.after.toList.filter λe=>Region.binds .any e).map (·.on):=by
 have hi:i<ops.size:=(Array.getElem?_eq_some_iff.1 h).1
 have hi':i<(edL ops).length:=by simp[edL,hi]
 rw[List.getD_eq_getElem?_getD,List.getElem?_eq_getElem hi']
 simp[edL,h]
theorem aCZ {ops:Array Oper}{i:Nat}{o:Oper} (h:ops[i]? = some o) {T:List Nat}{l:Array Bool} (hT:∀j,j<ops.size->(j∈T↔l.getD j false=false)) (hb:∀e,e∈o.after->Region.binds .any e=true->e.on<ops.size) :
  nE (edL ops) T i=(o.after.all λe=>!Region.binds .any e||l.getD e.on false):=by
 unfold nE
 rw[aAf h,Bool.eq_iff_iff,List.all_eq_true,Array.all_eq_true']
 constructor
 .intro h1 e he
  cases hbn:Region.binds .any e with
  |false=>rfl
  | true =>
   have h2:=h1 e.on (List.mem_map.2 ⟨e,List.mem_filter.2 ⟨by simpa using he,hbn⟩,rfl⟩)
   simp only[Bool.not_eq_true',List.contains_eq_mem,decide_eq_false_iff_not] at h2
   have h3:=(hT e.on (hb e he hbn))
   cases hl:l.getD e.on false with
   |true=>rfl
   |false=>exact(h2 (h3.2 hl)).elim
 .intro h1 k hk
  obtain⟨e,he,rfl⟩:=List.mem_map.1 hk
  obtain⟨he,hbn⟩:=List.mem_filter.1 he
  have he':e∈o.after:=by simpa using he
  have h2:=h1 e he'
  rw[hbn] at h2
  simp only[Bool.not_eq_true',List.contains_eq_mem,decide_eq_false_iff_not]
  intro hm
  rw[(hT e.on (hb e he' hbn)).1 hm] at h2
  simp at h2
def yH (ops:Array Oper):Bool:=(List.range ops.size).all λi=>((ops[i]?).map λo=>o.after.toList.all λe=>!Region.binds .any e||decide (e.on<i)).getD true
theorem vF {ops:Array Oper} (h:yH ops=true) {i:Nat}{o:Oper} (ho:ops[i]? = some o):∀e,e∈o.after->Region.binds .any e=true->e.on<i:=by
 intro e he hb
 have hi:i<ops.size:=(Array.getElem?_eq_some_iff.1 ho).1
 have:=List.all_eq_true.1 h i (List.mem_range.2 hi)
 rw[ho] at this
 have:=List.all_eq_true.1 this e (by simpa using he)
 rw[hb] at this
 simpa using this
theorem aB2 {ops:Array Oper} (hbk:yH ops=true):∀(fuel:Nat) (listed:Array Bool) (L T:List Nat),listed.size=ops.size->T.Nodup->(∀j,j∈T↔j<ops.size∧listed.getD j false=false)->T.length=fuel->L∈vO ops fuel listed->okL (edL ops) T L
 | 0,listed,L,T,_,_,_,hl,h=>by
  rw[vO,List.mem_singleton] at h
  subst h
  exact List.length_eq_zero_iff.1 hl
 | fuel+1,listed,L,T,hsz,hn,hT,hl,h=>by
  rw[vO] at h
  have hgd:∀j,j<ops.size->listed.getD j true=listed.getD j false:=λj hj=>by
   have:j<listed.size:=by omega
   simp[Array.getD,this]
  have hT':∀j,j<ops.size->(j∈T↔listed.getD j false=false):=λj hj=>⟨λh=>((hT j).1 h).2,λh=>(hT j).2 ⟨hj,h⟩⟩
  have hrd:∀i o,ops[i]? = some o->nE (edL ops) T i=(o.after.all λe=>!Region.binds .any e||listed.getD e.on false):=λi o ho=>aCZ ho hT' λe he hb=>by
   have:=vF hbk ho e he hb
   have:=(Array.getElem?_eq_some_iff.1 ho).1
   omega
  generalize hrs:((List.range ops.size).filter λi=>!listed.getD i true&&((ops[i]?).map (·.after.all λe=>!Region.binds .any e||listed.getD e.on false)).getD false)=rs at h
  cases rs with
  | nil =>
   exfalso
   have hne:T≠[]:=λe=>by rw[e] at hl;simp at hl
   obtain⟨x,hx⟩:=List.exists_mem_of_ne_nil _ hne
   obtain⟨y,hy,hmin⟩:=@least ⟨[]⟩ (λy=>y∈T) ⟨x,hx⟩
   obtain⟨h1,h2⟩:=(hT y).1 hy
   have:y∈(List.range ops.size).filter λi=>!listed.getD i true&&((ops[i]?).map (·.after.all λe=>!Region.binds .any e||listed.getD e.on false)).getD false:=by
    refine List.mem_filter.2 ⟨List.mem_range.2 h1,?_⟩
    rw[hgd y h1,h2]
    have ho:ops[y]? = some ops[y]:=by simp[h1]
    rw[ho]
    simp only[Bool.not_false,Bool.true_and,Option.map_some,Option.getD_some]
    rw[←hrd y _ ho]
    unfold nE
    refine List.all_eq_true.2 λk hk=>?_
    rw[aAf ho] at hk
    obtain⟨e,he,rfl⟩:=List.mem_map.1 hk
    obtain⟨he,hbn⟩:=List.mem_filter.1 he
    have hlt:=vF hbk ho e (by simpa using he) hbn
    simp only[Bool.not_eq_true',List.contains_eq_mem,decide_eq_false_iff_not]
    intro hm
    have:=hmin _ hm
    omega
   rw[hrs] at this
   cases this
  | cons y ys =>
   simp only[List.mem_flatMap,List.mem_map] at h
   obtain⟨i,hi,L',hL',rfl⟩:=h
   rw[←hrs] at hi
   obtain⟨hi1,hi2⟩:=List.mem_filter.1 hi
   have hi1:=List.mem_range.1 hi1
   have ho:ops[i]? = some ops[i]:=by simp[hi1]
   rw[ho] at hi2
   simp only[Bool.and_eq_true,Option.map_some,Option.getD_some] at hi2
   obtain⟨hi2,hi3⟩:=hi2
   rw[hgd i hi1] at hi2
   have hiT:i∈T:=(hT i).2 ⟨hi1,by simpa using hi2⟩
   refine⟨hiT,(hrd i _ ho).trans hi3,aB2 hbk fuel (listed.setIfInBounds i true) L' (T.erase i) (by simpa using hsz) (hn.erase i) (λj=>?_) (by rw[List.length_erase_of_mem hiT];omega) hL'⟩
   rw[hn.mem_erase_iff,hT j]
   by_cases e:j=i
   .subst e
    have:j<listed.size:=by omega
    simp[Array.getD,this]
   .rw[Array.getD_eq_getD_getElem?,Array.getD_eq_getD_getElem?,Array.getElem?_setIfInBounds_ne (Ne.symm e)]
    simp[e]
theorem aCt {ops:Array Oper}{T:List Nat} (hn:T.Nodup) (hT:∀j,j<ops.size->j∈T) (hbk:yH ops=true):∀(n i j:Nat) {A B:List Nat},okL (edL ops) T (A++j::B)->pJ ops n i j=true->i∈A
 |0,i,j,A,B,_,h=>by simp[pJ] at h
 | n+1,i,j,A,B,hok,h=>by
  unfold pJ at h
  split at h
  .rename_i o ho
   rw[←Array.any_toList,List.any_eq_true] at h
   obtain⟨e,he,h⟩:=h
   simp only[Bool.and_eq_true,Bool.or_eq_true,beq_iff_eq] at h
   have he':e∈o.after:=by simpa using he
   have hlt:=vF hbk ho e he' h.1
   have hj:=(Array.getElem?_eq_some_iff.1 ho).1
   have hA:e.on∈A:=aB6 hn hok e.on (by rw[aAf ho];exact List.mem_map.2 ⟨e,List.mem_filter.2 ⟨he,h.1⟩,rfl⟩) (hT _ (by omega))
   rcases h.2 with h2|h2
   .rw[←h2];exact hA
   .obtain⟨A1,A2,rfl⟩:=List.append_of_mem hA
    rw[List.append_assoc] at hok
    exact List.mem_append_left _ (aCt hn hT hbk n i e.on hok h2)
  .cases h
def aAb (ops:Array Oper):List Nat->List Nat->Bool
 |_,[]=>true
 | done,i::r=>(match ops[i]? with
   | some oi=>oi.guard.isNone&&aB7 oi&&(match oi.op with|.move _=>true|.assign _=>true|.nilCheck _=>true|.fieldAddr _ _ _=>true|_=>false)&&(List.range ops.size).all λj=>j==i||done.contains j||pJ ops ops.size i j||(match ops[j]? with
     |some oj=>oi.apart ops oj&&aB7 oj
     |none=>false)
   |none=>false)&&aAb ops (i::done) r
def chkQ (ops:Array Oper) (E:List (List Nat)) (Ps:List Nat):Bool:=
 yH ops&&((List.range ops.size).all λi=>(E.getD i []).all λk=>((edL ops).getD i []).contains k)&&decide (E.length=ops.size)&&Ps.all (λi=>decide (i<ops.size))&&aAb ops [] Ps
section
variable [I:Envs]
variable {P:Program}{nt:Nat}{Q:Exit->Act->World->Prop}
def vcO (P:Program) (K:St->Prop) (aops:List aH) (E:List (List Nat)):Nat->List Nat->St->Prop
 |0,_,σ=>K σ
 |m+1,T,σ=>OrK E T T (λi=>vc P (vcO P K aops E m (T.erase i)) [aops.getD i default] σ) .x
theorem aDg {C:Ctx}{K:St->Prop}{aops:List aH}{E:List (List Nat)} (hK:∀a w,bK C K a w->Q .normal a w):∀(L T:List Nat) (σ:St) (a:Act) (w:World) (S:Nat->Prop) (ρ:Name->Option Nat) (κ:Name->Nat),okL E T L->vcO P K aops E T.length T σ->OK C σ.f a w S ρ κ->RgL P C.nt (L.map λi=>aops.getD i default) Q a w
 | [],T,σ,a,w,S,ρ,κ,h,hv,hok=>by
  obtain rfl:T=[]:=h
  exact RgL.nil (hK a w ⟨σ,S,ρ,κ,hv,hok⟩)
 | i::L,T,σ,a,w,S,ρ,κ,⟨h1,h2,h3⟩,hv,hok=>by
  obtain⟨m,hm⟩:∃m,T.length=m+1:=⟨T.length-1,by have:=List.length_pos_of_mem h1;omega⟩
  rw[hm,vcO] at hv
  have:=hv i h1 h2
  refine RgL.fw (pre:=[aops.getD i default]) (fun σ' a' w' S' ρ' κ' hk hok'=>?_) σ a w S ρ κ this hok
  refine aDg hK L (T.erase i) σ' a' w' S' ρ' κ' h3 ?_ hok'
  rw[List.length_erase_of_mem h1,hm]
  exact hk
def pv (σ:St):AOp->Option AV
 |.mv x=>some (evO (look σ.s) x)
 | .nilc x=>match evO (look σ.s) x with
  |.ptr n e c=>if(aA σ.h n).isSome then some (.ptr n e c) else none
  |_=>none
 | .fieldAddr off x=>match evO (look σ.s) x with
  |.ptr n e c=>if(aA σ.h n).isSome then some (.ptr n e (c+off)) else none
  |_=>none
 |_=>none
def vcF (K:St->Prop):List aH->St->Prop
 | [],σ=>K σ
 | o::r,σ=>match o.guard,o.dst,pv σ o.op with
  |none,some d,some x=>vcF K r ⟨(d,x)::σ.s,σ.h⟩
  |_,_,_=>False
theorem aCJ {C:Ctx}{a:Act}{w:World}{S:Nat->Prop}{ρ:Name->Option Nat}{κ:Name->Nat}{σ:St} (hok:OK C σ.f a w S ρ κ) {ops:Array Oper}{o:Oper}{ao:aH} (hc:gY P C.nt ops o=some ao.bare) (hg:o.guard=none) {x:AV} (hp:pv σ ao.op=some x)
  (hm:(match o.op with|.move _=>true|.assign _=>true|.nilCheck _=>true|.fieldAddr _ _ _=>true|_=>false)=true):∃v,RV S w ρ κ σ.f.h x v∧Yields P ops o v a:=by
 obtain⟨h1,h2,h3,h4⟩:=dR hc
 have hw:∀tm,Region.wanted o tm=true:=λtm=>by simp[Region.wanted,hg]
 obtain⟨dst,aop,gd⟩:=ao
 cases hop:o.op<;>rw[hop] at hm<;>(first|(exfalso;simp at hm;done)|skip)
 case move y =>
  rw[hop] at h1
  have e:aop=.mv y:=by
   simp only[comp,Option.some.injEq] at h1
   cases aop<;>simp_all [AOp.bare,AOp.bare0]
  subst e
  simp only[pv,Option.some.injEq] at hp
  subst hp
  exact⟨a.eval y,hok.ev y,.inl ⟨hw _,λw=>by simp[execOp,hop]⟩⟩
 case assign y =>
  rw[hop] at h1
  have e:aop=.mv y:=by
   simp only[comp,Option.some.injEq] at h1
   cases aop<;>simp_all [AOp.bare,AOp.bare0]
  subst e
  simp only[pv,Option.some.injEq] at hp
  subst hp
  exact⟨a.eval y,hok.ev y,.inl ⟨hw _,λw=>by simp[execOp,hop]⟩⟩
 case nilCheck y =>
  rw[hop] at h1
  have e:aop=.nilc y:=by
   simp only[comp,Option.some.injEq] at h1
   cases aop<;>simp_all [AOp.bare,AOp.bare0]
  subst e
  have hx:=hok.ev y
  simp only[pv] at hp
  split at hp
  .rename_i n e c hc'
   split at hp
   .rename_i hs
    obtain rfl:=Option.some.inj hp
    obtain⟨b,hb⟩:=Option.isSome_iff_exists.1 hs
    rw[show evO σ.f.s y=_ from hc'] at hx
    obtain⟨z,hz,hva⟩:=bZ hx b hb
    refine⟨a.eval y,hx,.inl ⟨hw _,λw=>?_⟩⟩
    rw[hva]
    simp[execOp,hop,hva]
   .cases hp
  .cases hp
 case fieldAddr s y i =>
  rw[hop] at h1
  simp only[comp] at h1
  split at h1
  .rename_i f hf
   split at h1
   .rename_i n0 hn
    simp only[Option.some.injEq] at h1
    have hrun:∀w b o,(Instr.fieldAt s (.pointer (some ⟨b,o,none⟩)) i).run P w=.ok (.pointer (some ⟨b,o+f.offset,none⟩)) w:=by
     intro w b o
     unfold oQ at hf
     split at hf
     .rename_i fs hu
      simp[Instr.fieldAt,run_underlying hu,hf,Instr.sureAddr,fieldPlace,run_sizeOf hn,addr_add]
     .cases hf
    have e:aop=.fieldAddr f.offset y∨aop=.fieldV f.offset y:=by
     cases aop<;>simp_all [AOp.bare,AOp.bare0]
    rcases e with rfl|rfl
    .have hx:=hok.ev y
     simp only[pv] at hp
     split at hp
     .rename_i n e c hc'
      split at hp
      .rename_i hs
       obtain rfl:=Option.some.inj hp
       obtain⟨b,hb⟩:=Option.isSome_iff_exists.1 hs
       rw[show evO σ.f.s y=_ from hc'] at hx
       obtain⟨z,hz,hva⟩:=bZ hx b hb
       refine⟨.pointer (some ⟨z,e*b.k+c+f.offset,none⟩),.ptr _ _ _ _ λb' hb'=>?_,.inl ⟨hw _,λw=>?_⟩⟩
       .have:b=b':=Option.some.inj (hb.symm.trans hb')
        subst this
        exact⟨z,hz,by rw[Nat.add_assoc]⟩
       .simp only[execOp,hop]
        rw[hva]
        have:=hrun w z (e*b.k+c)
        simp only[Sem.run_bind,this,Result.andThen_ok,Sem.run_pure]
      .cases hp
     .cases hp
    .simp[pv] at hp
   .cases h1
  .cases h1
theorem zD {C:Ctx}{ops:Array Oper}{aops:List aH}{K:St->Prop} (hQ:∀c a w,¬Q (.panic c) a w) (hbk:yH ops=true) (hcop:∀i,i<ops.size->∃o,ops[i]? = some o∧gY P C.nt ops o=some (aops.getD i default).bare) {L0:List Nat} (hL:okL (edL ops) (List.range ops.size) L0) :
  ∀ (Ps done:List Nat) (σ:St) (a:Act) (w:World) (S:Nat->Prop) (ρ:Name->Option Nat) (κ:Name->Nat),(Ps.all λi=>decide (i<ops.size))=true->(∀i,i∈Ps->i∉done)->Ps.Nodup->aAb ops done Ps=true->vcF K (Ps.map λi=>aops.getD i default) σ->OK C σ.f a w S ρ κ->
   (∀(σ:St) (a:Act) (w:World) (S:Nat->Prop) (ρ:Name->Option Nat) (κ:Name->Nat),K σ->OK C σ.f a w S ρ κ->wpOps P ops Q (L0.filter λj=>!(Ps.reverse++done).contains j) a w)->
   wpOps P ops Q (L0.filter λj=>!done.contains j) a w
 | [],done,σ,a,w,S,ρ,κ,_,_,_,_,hv,hok,hfin=>by
  have:=hfin σ a w S ρ κ hv hok
  simpa using this
 | p::Ps,done,σ,a,w,S,ρ,κ,hlt,hnd,hno,hf,hv,hok,hfin=>by
  simp only[List.all_cons,Bool.and_eq_true,decide_eq_true_eq] at hlt
  obtain⟨oi,ho,hco⟩:=hcop p hlt.1
  simp only[aAb,ho,Bool.and_eq_true,List.all_eq_true,List.mem_range] at hf
  obtain⟨⟨⟨⟨hg,hs⟩,hmv⟩,hap⟩,hf2⟩:=hf
  have hg:oi.guard=none:=by simpa using hg
  have hpd:p∉done:=hnd p List.mem_cons_self
  obtain⟨hn0,hm0⟩:=uR List.nodup_range hL
  have hpL:p∈L0:=(hm0 p).2 (List.mem_range.2 hlt.1)
  obtain⟨A,B,rfl⟩:=List.append_of_mem hpL
  have hnA:p∉A:=λh=>(List.nodup_append.1 hn0).2.2 p h p List.mem_cons_self rfl
  have hnB:p∉B:=(List.nodup_cons.1 (List.nodup_append.1 hn0).2.1).1
  have hsplit:(A++p::B).filter (λj=>!done.contains j)=A.filter (λj=>!done.contains j)++p::B.filter (λj=>!done.contains j):=by
   rw[List.filter_append,List.filter_cons_of_pos (by simpa using hpd)]
  have hrest:(A++p::B).filter (λj=>!(p::done).contains j)=A.filter (λj=>!done.contains j)++B.filter (λj=>!done.contains j):=by
   rw[List.filter_append,List.filter_cons_of_neg (by simp)]
   congr 1
   .refine List.filter_congr λx hx=>?_
    have:x≠p:=λe=>hnA (e ▸ hx)
    simp[this]
   .refine List.filter_congr λx hx=>?_
    have:x≠p:=λe=>hnB (e ▸ hx)
    simp[this]
  rw[hsplit]
  simp only[List.map_cons,vcF] at hv
  split at hv
  .rename_i d x hgd hd hpv
   obtain⟨v,hv1,hy⟩:=aCJ hok hco hg hpv hmv
   obtain⟨c1,c2,c3,_⟩:=dR hco
   have hdst:oi.dst=some d:=c2.trans hd
   refine vI ho (xE hs) hQ _ _ a w (λj hj=>?_) hy ?_
   .obtain⟨hjA,hjd⟩:=List.mem_filter.1 hj
    have hjlt:j<ops.size:=List.mem_range.1 ((hm0 j).1 (List.mem_append_left _ hjA))
    have:=hap j hjlt
    simp only[Bool.or_eq_true,beq_iff_eq] at this
    rcases this with((h|h)|h)|h
    .exact(hnA (h ▸ hjA)).elim
    .rw[h] at hjd;simp at hjd
    .exfalso
     obtain⟨A1,A2,rfl⟩:=List.append_of_mem hjA
     have hL':=hL
     rw[List.append_assoc,List.cons_append] at hL'
     have:=aCt List.nodup_range (λj hj=>List.mem_range.2 hj) hbk ops.size p j hL' h
     exact hnA (List.mem_append_left _ this)
    .split at h
     .rename_i oj hoj
      simp only[Bool.and_eq_true] at h
      exact⟨oj,hoj,h.1,xE h.2⟩
     .cases h
   .rw[←hrest,hdst]
    have hok':OK C (⟨(d,x)::σ.s,σ.h⟩:St).f (a.put (some d) v) w S ρ κ:=by
     have:=hok.put (d:=some d) hv1 (λd' hd'=>by
       obtain rfl:=Option.some.inj hd'
       exact c3 _ hdst)
     have e:(⟨(d,x)::σ.s,σ.h⟩:St).f=⟨upd σ.f.s (some d) x,σ.f.h⟩:=by
      simp[St.f,look,upd,eq_comm]
     rw[e];exact this
    refine zD hQ hbk hcop hL Ps (p::done) _ _ w S ρ κ hlt.2 (λi hi=>?_) (List.nodup_cons.1 hno).2 hf2 hv hok' (fun σ a w S ρ κ h1 h2=>?_)
    .intro h
     rcases List.mem_cons.1 h with rfl|h
     .exact(List.nodup_cons.1 hno).1 hi
     .exact hnd i (List.mem_cons_of_mem _ hi) h
    .have:=hfin σ a w S ρ κ h1 h2
     rw[show(p::Ps).reverse++done=Ps.reverse++(p::done) by simp] at this
     exact this
  .exact hv.elim
def drQ (P:Program) (Z:List (List (List Nat)×List Nat)) (nt:Nat) (ops:Array Oper):Option (List Nat):=
 if Z.any λz=>ops.size==z.1.length&&chkQ ops z.1 z.2 then some [3000000] else(bV P nt ops).bind λfl=>if fl.contains 3000000 then none else some fl
theorem aAi (hm:P.follows .mixedOrders=true) (Z:List (List (List Nat)×List Nat)):iO P (drQ P Z):=by
 intro C id ops aops fl K Q σ a w S ρ κ hd h1 h2
 unfold drQ at hd
 split at hd
 .obtain rfl:=Option.some.inj hd
  simp[uY] at h2
 .obtain⟨fl',h3,h4⟩:=Option.bind_eq_some_iff.1 hd
  split at h4
  .cases h4
  .obtain rfl:=Option.some.inj h4
   exact jH hm C id ops aops fl' K Q σ a w S ρ κ h3 h1 h2
theorem qN.rgO {C:Ctx}{N:St->Prop}{X:gP->St->Prop}{σ:St} (hm:P.follows .mixedOrders=true) {Z:List (List (List Nat)×List Nat)}{E:List (List Nat)}{Ps:List Nat} (hZ:(Z.all λz=>!(z.1.length==E.length)||z==(E,Ps))=true) (hPn:Ps.Nodup) {aops:List aH}{out:List Nat} (hn:aops.length=E.length)
  {T0:List Nat} (hT0:(List.range E.length).filter (λj=>!Ps.reverse.contains j)=T0) {n:Nat} (hn0:T0.length=n) {pops:List aH} (hps:(Ps.map λi=>aops.getD i default)=pops) (h:vcF (vcO P (fun σ'=>N ⟨pE σ'.s out,σ'.h⟩) aops E n T0) pops σ):qN P C (drQ P Z) (.region aops out [3000000]) N X σ:=by
 subst hn0;subst hT0;subst hps
 intro c Q0 a w S ρ κ hc hN _ _ hok
 cases c
 case region id ops draw =>
  refine Code.wp_mono (Q:=λe a w=>Q0 e a w∧∀c,e≠.panic c) (λe a w h=>h.1) ?_
  generalize hQd:(λ(e:Exit) a w=>Q0 e a w∧∀c,e≠.panic c)=Q
  have hQp:∀c a w,¬Q (.panic c) a w:=λc a w hq=>by rw[←hQd] at hq;exact hq.2 c rfl
  have hQn:∀a w,bK C N a w->Q .normal a w:=λa w hg=>by rw[←hQd];exact⟨hN a w hg,λc e=>by cases e⟩
  simp only[aU,aD.bare] at hc
  split at hc
  .rename_i fl' hdraw
   cases ho:vD P C.nt ops ops.toList with
   |none=>rw[ho] at hc;cases hc
   | some l =>
    rw[ho] at hc
    simp only[Option.map_some,Option.some.injEq,aD.region.injEq,true_and] at hc
    obtain⟨hl,hfl⟩:=hc
    subst hl;subst hfl
    cases draw with
    |false=>simp at hdraw
    | true =>
     have hd:drQ P Z C.nt ops=some [3000000]:=by simpa using hdraw
     obtain⟨g1,g2⟩:=gW ho
     have hlen:ops.size=aops.length:=by simpa using g1
     have hck:chkQ ops E Ps=true:=by
      unfold drQ at hd
      split at hd
      .rename_i hany
       obtain⟨z,hz,hc'⟩:=List.any_eq_true.1 hany
       simp only[Bool.and_eq_true,beq_iff_eq] at hc'
       have hZ':=List.all_eq_true.1 hZ z hz
       have hll:z.1.length=E.length:=by rw[←hc'.1,hlen,hn]
       simp only[hll,beq_self_eq_true,Bool.not_true,Bool.false_or,beq_iff_eq] at hZ'
       rw[hZ'] at hc'
       exact hc'.2
      .obtain⟨fl',h3,h4⟩:=Option.bind_eq_some_iff.1 hd
       split at h4
       .cases h4
       .rename_i hne
        obtain rfl:=Option.some.inj h4
        simp at hne
     simp only[chkQ,Bool.and_eq_true,decide_eq_true_eq] at hck
     obtain⟨⟨⟨⟨hbk,hE⟩,hEl⟩,hPl⟩,hfr⟩:=hck
     refine wp_region_draw λt=>?_
     rw[hm]
     have hmem:=aBL ops t
     have hL:okL (edL ops) (List.range ops.size) (Region.schedule true ops t):=aB2 hbk ops.size _ _ _ (by simp) List.nodup_range (λj=>by
       simp only[List.mem_range]
       constructor
       . intro h
         exact⟨h,by simp only[Array.getD_eq_getD_getElem?,Array.getElem?_replicate];split<;>rfl⟩
       . exact λh=>h.1) (by simp) hmem
     generalize Region.schedule true ops t=L0 at hL
     have hcop:∀i,i<ops.size->∃o,ops[i]? = some o∧gY P C.nt ops o=some (aops.getD i default).bare:=λi hi=>by
      have hil:i<aops.length:=by omega
      obtain⟨o,q1,q2⟩:=g2 i (aops.getD i default) (by simp[hil])
      exact⟨o,by simpa using q1,q2⟩
     have hok':OK C σ.f a {w with drawn:=w.drawn+1} S ρ κ:=hok.ext (Ext.of_heap rfl rfl rfl)
     have key:=zD (Q:=Q) hQp hbk hcop hL Ps [] σ a {w with drawn:=w.drawn+1} S ρ κ hPl (λ_ _ h=>by cases h) hPn hfr h hok' (fun σ' a' w' S' ρ' κ' hk hok2=>?_)
     .have e:L0.filter (λj=>!([]:List Nat).contains j)=L0:=List.filter_eq_self.2 λ_ _=>by simp
      rw[e] at key
      exact key
     .have hokE:okL E (List.range ops.size) L0:=aAI (λi k hk=>by
        by_cases hi:i<ops.size
        . have:=List.all_eq_true.1 (List.all_eq_true.1 hE i (List.mem_range.2 hi)) k hk
          simpa using this
        . rw[List.getD_eq_getElem?_getD,List.getElem?_eq_none (by omega)] at hk
          cases hk) hL
      have hokF:=xD (λj=>!(Ps.reverse++[]).contains j) List.nodup_range hokE
      rw[List.append_nil] at hokF⊢
      have hmm:=(uR List.nodup_range hL).2
      rw[show ops.size=E.length from hEl.symm] at hokF
      have hrg:=aDg (Q:=Q) (C:=C) (K:=fun σ'=>N ⟨pE σ'.s out,σ'.h⟩) (aops:=aops) (E:=E) (λa w hg=>hQn a w (by
        obtain⟨σ',S',ρ',κ',hK,hok'⟩:=hg
        exact⟨_,S',ρ',κ',hK,hok'.less (uT _ _) (λ_ _ h=>h)⟩)) _ _ σ' a' w' S' ρ' κ' hokF hk hok2
      refine hrg ops _ (by simp) λj ao hj=>?_
      simp only[List.getElem?_map,Option.map_eq_some_iff] at hj
      obtain⟨i,hi,rfl⟩:=hj
      have him:i∈L0:=(List.mem_filter.1 (List.mem_of_getElem? hi)).1
      obtain⟨o,q1,q2⟩:=hcop i (List.mem_range.1 ((hmm i).1 him))
      exact⟨i,o,hi,q1,q2⟩
  .cases hc
 all_goals(simp only[aU,aD.bare] at hc;first|(cases hc;done)|(split at hc<;>simp at hc)|(simp at hc))
theorem RgK.ord (hm:P.follows .mixedOrders=true) {C:Ctx}{N:St->Prop}{X:gP->St->Prop}{σ:St}{Z:List (List (List Nat)×List Nat)} (E:List (List Nat)) (Ps:List Nat) {aops:List aH}{out:List Nat}{b:Bool}{A:Prop}{t:Tag (b,A,qN P C (drQ P Z) (.region aops out [3000000]) N X σ)} (hn:aops.length=E.length) (hZ:(Z.all λz=>!(z.1.length==E.length)||z==(E,Ps))=true) (hPn:Ps.Nodup)
  {T0:List Nat} (hT0:(List.range E.length).filter (λj=>!Ps.reverse.contains j)=T0) {n:Nat} (hn0:T0.length=n) {pops:List aH} (hps:(Ps.map λi=>aops.getD i default)=pops) (h:vcF (vcO P (fun σ'=>N ⟨pE σ'.s out,σ'.h⟩) aops E n T0) pops σ):RgK b A (qN P C (drQ P Z) (.region aops out [3000000]) N X σ) t:=
 .inr (qN.rgO hm hZ hPn hn hT0 hn0 hps h)
def lI (P:Program) (Z:List (List (List Nat)×List Nat)) (f:FuncId) (fn:Func) (ac:aD):Prop:=
 P.funcs[f]? = some fn∧(fn.body.bind (aU P fn.ntmps (drQ P Z)))=some ac.bare∧(fn.name != "runtime.NumGoroutine")=true
theorem lI.fn {Z:List (List (List Nat)×List Nat)}{f:FuncId}{fn:Func}{ac:aD} (h:lI P Z f fn ac) (hm:P.follows .mixedOrders=true) {hin:List Blk}{args:List AV}{r:AV}{hout':List (Option Blk)} (nt:Nat) (rs:List ResultVar) (B:List Name) (hout:List Blk) (hnt:fn.ntmps=nt) (hrs:fn.results.toList=rs)
  (ho:hout'=hout.map some) (hna:args.length<=nt) (hnd:nodupB B=true) (hB:∀j,j<hin.length->B[j]? = some (.b j))
  (hw:∀C:Ctx,wpc P C (drQ P Z) ac (tK P rs B r hout) (λe σ=>match e with|.ret=>tK P rs B r hout σ|.exit _=>False) ⟨ini 0 args,rX 0 hin⟩) :
  Fn P f hin args r hout':=by
 subst hnt;subst hrs;subst ho
 obtain⟨h1,h2,h3⟩:=h
 obtain⟨body,hb,hc⟩:=Option.bind_eq_some_iff.1 h2
 exact Fn.intro (aAi hm Z) B h1 hb (by simpa using h3) hc hna (mU hnd) hB λC _=>hw C
end
end
end Go.Vs
