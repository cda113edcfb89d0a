/- Decks in memory of their own: what copies and the program leave, and what marks write. -/
import Derived.Test.YtkgeiaideklmoaaGreatVuA
set_option linter.all false
set_option maxHeartbeats 8000000
namespace Go.Vs
section
variable {P:Program}
theorem RC.flatW [Envs] {S S':Nat→Prop}{w w':World}{x:AV}{v:Value} (h:RC S w x v) (F:Vs.flat x=true):RC S' w' x v:=
 RC.mono (S:=fun _=>False) (w:=w) (fun _ h=>h.elim) (fun _ h=>h.elim) (RC.flat h F)
theorem RV.flatW [Envs] {S S':Nat→Prop}{w w':World}{ρ:Name→Option Nat}{κ:Name→Nat}{hh:Name→Option Blk}{x:AV}{v:Value} (h:RV S w ρ κ hh x v) (F:Vs.flat x=true):RV S' w' ρ κ hh x v:=
 (show RV (fun _=>False) w ρ κ hh x v from RV.flat h F).mono (fun _ h=>h.elim) (fun _ h=>h.elim) fun m _=>fC.refl _ _ _ _
theorem OK.namesLt [Envs] {C:Ctx}{σ:FSt}{a:Act}{w:World}{S:Nat→Prop}{ρ:Name→Option Nat}{κ:Name→Nat} (F:OK C σ a w S ρ κ):∀n x,(σ.h n).isSome→ρ n=some x→x<w.heap.size:=fun n x G H=>F.hok.lt G H
theorem OK.put1 [Envs] {C:Ctx}{σ:St}{a:Act}{w:World}{S:Nat→Prop}{ρ:Name→Option Nat}{κ:Name→Nat} (G:OK C σ.f a w S ρ κ) {d:Nat} (H:d<C.nt) (u:Value):OK C (⟨(d,.v u)::σ.s,σ.h⟩:St).f (a.put (some d) u) w S ρ κ:=by
 have:=G.put (x:=.v u) (v:=u) (d:=some d) (.clo (.v u)) (fun d' F=>by
   obtain rfl:=Option.some.inj F;exact H)
 have e:(⟨(d,.v u)::σ.s,σ.h⟩:St).f=⟨upd σ.f.s (some d) (.v u),σ.f.h⟩:=by
  simp[St.f,look,upd,eq_comm]
 rw[e];exact this
theorem OK.jump (I I':Envs) {C1 C:Ctx}{σ:St}{a:Act}{w w':World}{S:Nat→Prop}{ρ:Name→Option Nat}{κ:Name→Nat} (hl:Later C1 C) (h3:∀b,¬C1.Mut b) (O:@OK I C σ.f a w S ρ κ)
  (D:Nat→Prop) (ht:w.heap.size≤w'.heap.size) (hw:∀b,b<w.heap.size→¬D b→w'.heap[b]? = w.heap[b]?) (hD:∀b,D b→C1.w0.heap.size≤b∧∀n,(σ.f.h n).isSome→ρ n≠some b)
  (ho:w'.os=w.os∧w'.output=w.output) {S':Nat→Prop} (hS:∀b,S' b→b<w'.heap.size) (h0:∀b,C1.S0 b→S' b) (h1:∀b,S' b→C1.S0 b∨C1.w0.heap.size≤b)
  (hN:∀b,S' b→∀n,(σ.f.h n).isSome→ρ n≠some b) (he:@Env I' S' w') (hp:∀p,p∈σ.h→iF p.2∧p.2.fz=false) (s':List (Nat×AV))
  (hs:∀p,p∈s'→(p.2=look σ.s p.1∧flat p.2=true)∨RC S' w' p.2 (a.tmps.getD p.1 undef)) :
  @OK I' (C.anew w' S' σ.f.h ρ) (⟨s',σ.h⟩:St).f a w' S' ρ κ∧Later C1 (C.anew w' S' σ.f.h ρ):=by
 have F:=@OK.back I _ _ _ _ _ _ _ hl _ O;have hr:∀n x,(σ.f.h n).isSome→ρ n=some x→x<w.heap.size:=@OK.namesLt I _ _ _ _ _ _ _ O;have M:∀n x,(σ.f.h n).isSome→ρ n=some x→w'.heap[x]? = w.heap[x]?:=fun n x hn H=>hw x (hr n x hn H) fun hd=>(hD x hd).2 n hn H
 have hq:∀(s:List (Nat×AV)) t,look s t=.junk∨(t,look s t)∈s:=by
  intro s
  induction s with
  |nil=>intro t;left;rfl
  | cons p r ih =>
   intro t;simp only[look];split
   ·rename_i h;subst h;right;exact List.mem_cons_self
   ·rcases ih t with h|h
    ·left;exact h
    ·right;exact List.mem_cons_of_mem _ h
 obtain⟨G,Y,g3,⟨j1,j2,j3,j4⟩,g5,g6,L,g8,g9,ha,hy⟩:=F;obtain⟨o1,o2,o3,⟨k1,k2,k3,k4⟩,o5,o6,o7,o8,o9,h4,hv⟩:=O;constructor
 ·refine⟨o1,o2,fun t=>?_,⟨fun n b F=>?_,k2,hS,he⟩,Nat.le_refl _,fun _ _ _=>rfl,fun n x h1 h2=>.inr ⟨n,h1,h2⟩,fun _ h=>h,fun b F=>.inl F,⟨rfl,rfl⟩,hv⟩
  ·show RV S' w' _ _ _ (look s' t) _
   rcases hq s' t with h|h
   ·rw[h];exact .junk _
   ·rcases hs _ h with⟨e,hf⟩|e
    ·have h1:=o3 t;have e':look s' t=look σ.s t:=e;have hc:flat (look s' t)=true:=hf;rw[e'] at hc⊢;exact RV.flatW h1 hc
    ·exact .clo e
  ·have J:σ.f.h n=some b:=F;have hk:=k1 n b J;have hn:∀x,ρ n=some x→¬S' x:=fun x H hs=>hN x hs n (by rw[J];rfl) H;have hu:∀x,ρ n=some x→w'.heap[x]? = w.heap[x]?:=fun x H=>M n x (by rw[J];rfl) H;obtain⟨hf,hz⟩:=hp _ (fP J);cases b with
   | var c z =>
    obtain⟨x,cs,T,fr,G,Y,g3,g4,hg,g5,g6,L⟩:=hk;have U:z=false:=hz;subst U;exact⟨x,cs,T,fr,G,by rw[hu x G];exact Y,g3,fun _ H=>hn x G H,fun h=>(by cases h),g5,g6,fun j hj=>⟨(L j hj).1,RV.flatW (L j hj).2 (dA hf)⟩⟩
   | arr k l z =>
    have U:z=false:=hz;subst U;obtain⟨g0,⟨G,Y⟩|⟨x,cs,T,fr,G,Y,g3,g4,hg,g5,g6,L⟩⟩:=hk
    ·exact⟨g0,.inl ⟨G,Y⟩⟩
    ·refine⟨g0,.inr ⟨x,cs,T,fr,G,by rw[hu x G];exact Y,g3,fun _ H=>hn x G H,fun h=>(by cases h),g5,g6,fun i j hi hj=>⟨(L i j hi hj).1,RC.flatW (L i j hi hj).2 (dA (hf _ ?_))⟩⟩⟩;rw[List.getD_eq_getElem?_getD,List.getElem?_eq_getElem hi];exact List.getElem_mem _
 ·refine⟨hl.nt,Nat.le_trans g5 ht,fun b F hm=>?_,fun b F=>?_,h0,fun b F=>(h1 b F).imp_right .inl,⟨ho.1.trans ha.1,ho.2.trans ha.2⟩,hl.base⟩
  ·show w'.heap[b]? = _
   rw[hw b (Nat.lt_of_lt_of_le F g5) fun hd=>(by have:=(hD b hd).1;omega)];exact g6 b F hm
  ·obtain⟨n,q1,q2⟩:=F;exact L n b q1 q2
structure Pt (I:Envs) (C1:Ctx) (σ:St) (a:Act) (w:World) (S:Nat→Prop):Prop where
 nomut:∀b,¬C1.Mut b
 rows:∀p,p∈σ.h→iF p.2∧p.2.fz=false
 ex:∃(C:Ctx) (ρ:Name→Option Nat) (κ:Name→Nat),C.w0=w∧C.S0=S∧(∀b,C.Mut b→∃n,(σ.f.h n).isSome∧ρ n=some b)∧Later C1 C∧@OK I C σ.f a w S ρ κ
variable {I:Envs}{C1:Ctx}{σ τ:St}{a:Act}{w:World}{S:Nat→Prop}
theorem Pt.of_ok {C:Ctx}{ρ:Name→Option Nat}{κ:Name→Nat} (G:∀b,¬C1.Mut b) (J:∀p,p∈σ.h→iF p.2∧p.2.fz=false) (H:Later C1 C) (F:@OK I C σ.f a w S ρ κ):Pt I C1 σ a w S:=
 ⟨G,J,C.anew w S σ.f.h ρ,ρ,κ,rfl,rfl,fun _ h=>h,H.trans (@OK.later I _ _ _ _ _ _ _ F),@OK.anew I _ _ _ _ _ _ _ F⟩
theorem Pt.dom (h:Pt I C1 σ a w S):∀b,S b→b<w.heap.size:=by
 obtain⟨_,_,C,ρ,κ,_,_,_,_,F⟩:=h;exact F.hok.dom
theorem Pt.env (h:Pt I C1 σ a w S):@Env I S w:=by
 obtain⟨_,_,C,ρ,κ,_,_,_,_,F⟩:=h;exact @HOK.env I _ _ _ _ _ (@OK.hok I _ _ _ _ _ _ _ F)
theorem Pt.base (h:Pt I C1 σ a w S):∀b,S b→C1.S0 b∨C1.w0.heap.size≤b:=by
 obtain⟨G,_,C,ρ,κ,_,_,_,J,F⟩:=h;intro b H;rcases(@OK.back I _ _ _ _ _ _ _ J _ F).Snew b H with h|h|h
 ·exact .inl h
 ·exact .inr h
 ·exact(G b h).elim
theorem Pt.sub (h:Pt I C1 σ a w S):∀b,C1.S0 b→S b:=by
 obtain⟨H,_,C,ρ,κ,_,_,_,G,F⟩:=h;exact(@OK.back I _ _ _ _ _ _ _ G _ F).S0
theorem Pt.size (h:Pt I C1 σ a w S):C1.w0.heap.size≤w.heap.size:=by
 obtain⟨H,_,C,ρ,κ,_,_,_,G,F⟩:=h;exact(@OK.back I _ _ _ _ _ _ _ G _ F).size
theorem Pt.val (h:Pt I C1 σ a w S) {t:Nat} (G:dY (look σ.s t)=true):RC S w (look σ.s t) (a.tmps.getD t undef):=by
 obtain⟨H,_,C,ρ,κ,_,_,_,J,F⟩:=h;exact RV.closed (@OK.slots I _ _ _ _ _ _ _ F t) G
theorem Pt.valv (h:Pt I C1 σ a w S) {t:Nat}{v:Value} (G:look σ.s t=.v v):a.tmps.getD t undef=v:=by
 obtain⟨H,_,C,ρ,κ,_,_,_,J,F⟩:=h;have:=@OK.slots I _ _ _ _ _ _ _ F t;rw[show σ.f.s t=.v v from G] at this;exact bM this
theorem Pt.jump (h:Pt I C1 σ a w S) {w':World} (D:Nat→Prop) (Y:w.heap.size≤w'.heap.size) (hw:∀b,b<w.heap.size→¬D b→w'.heap[b]? = w.heap[b]?) (hD:∀b,D b→C1.w0.heap.size≤b∧S b)
  (ho:w'.os=w.os∧w'.output=w.output) {S':Nat→Prop} (O:∀b,S' b→b<w'.heap.size∧(S b∨w.heap.size≤b)) (h0:∀b,C1.S0 b→S' b) (s':List (Nat×AV))
  (hs:∀p,p∈s'→(p.2=look σ.s p.1∧flat p.2=true)∨RC S' w' p.2 (a.tmps.getD p.1 undef)):Pt (keepE S' w') C1 ⟨s',σ.h⟩ a w' S':=by
 have G:=h.base;have hz:=h.size;obtain⟨hM,U,C,ρ,κ,he,ha,hc,hl,F⟩:=h
 have J:∀b,S b→∀n,(σ.f.h n).isSome→ρ n≠some b:=fun b G n L M=>by
  obtain⟨b',H⟩:=Option.isSome_iff_exists.1 L;exact @OK.noS I _ _ _ _ _ _ _ F _ _ H (U _ (fP H)).2 _ M G
 obtain ⟨h1,h2⟩:=OK.jump I (keepE S' w') hl hM F D Y hw (fun b hd=>⟨(hD b hd).1,J b (hD b hd).2⟩) ho (S':=S') (fun b G=>(O b G).1) h0 (fun b h=>by
   rcases(O b h).2 with h|h
   · exact G b h
   · exact .inr (Nat.le_trans hz h)) (fun b h n L M=>by
   rcases(O b h).2 with h|h
   · exact J b h n L M
   · have:=F.hok.lt L M;omega) tX U s' hs
 exact⟨hM,U,_,ρ,κ,rfl,rfl,fun _ h=>h,h2,h1⟩
theorem Pt.set (h:Pt I C1 σ a w S) (F:List (Nat×AV)) (H:∀p,p∈F→(p.2=look σ.s p.1∧flat p.2=true)∨RC S w p.2 (a.tmps.getD p.1 undef)):Pt (keepE S w) C1 ⟨F,σ.h⟩ a w S:=
 h.jump (fun _=>False) (Nat.le_refl _) (fun _ _ _=>rfl) (fun _ h=>h.elim) ⟨rfl,rfl⟩ (fun b G=>⟨h.dom b G,.inl G⟩) h.sub F H
theorem Pt.put (h:Pt I C1 σ a w S) {d:Nat} (O:d<C1.nt) (u:Value):Pt I C1 ⟨(d,.v u)::σ.s,σ.h⟩ (a.put (some d) u) w S:=by
 obtain⟨M,U,C,ρ,κ,J,F,G,L,H⟩:=h;refine⟨M,U,C,ρ,κ,J,F,G,L,?_⟩;exact @OK.put1 I _ _ _ _ _ _ _ H d (by rw[L.nt];exact O) u
variable {nt:Nat}{dr:Nat→Array Oper→Option (List Nat)}{Q:Exit→Act→World→Prop}
structure Past (S:Nat→Prop) (w:World) (S':Nat→Prop) (w':World):Prop where
 sub:∀b,S b→S' b
 old:∀b,S b→w'.heap[b]? = w.heap[b]?
 size:w.heap.size≤w'.heap.size
theorem Past.refl (S:Nat→Prop) (w:World):Past S w S w:=⟨fun _ h=>h,fun _ _=>rfl,Nat.le_refl _⟩
theorem Past.trans {S' F:Nat→Prop}{w' G:World} (h:Past S w S' w') (h':Past S' w' F G):Past S w F G:=
 ⟨fun b H=>h'.sub b (h.sub b H),fun b H=>(h'.old b (h.sub b H)).trans (h.old b H),Nat.le_trans h.size h'.size⟩
theorem Past.rc {S':Nat→Prop}{w':World} (h:Past S w S' w') {D:Nat→Prop} (F:∀b,D b→S b) {x:AV}{v:Value} (H:RC D w x v):RC D w' x v:=
 letI:Envs:=⟨[]⟩
 H.mono (fun _ h=>h) fun b G=>h.old b (F b G)
theorem Past.rcS {S':Nat→Prop}{w':World} (h:Past S w S' w') {x:AV}{v:Value} (G:RC S w x v):RC S' w' x v:=
 letI:Envs:=⟨[]⟩
 G.mono h.sub fun b F=>h.old b F
theorem Pt.later {C:Ctx}{ρ:Name→Option Nat}{κ:Name→Nat}{S':Nat→Prop}{M:Act}{w':World} (G:C.w0=w) (L:C.S0=S) (H:∀b,S b→b<w.heap.size∧¬C.Mut b) (F:@OK I C τ.f M w' S' ρ κ):Past S w S' w':=by
 refine⟨fun b J=>@OK.S0 I _ _ _ _ _ _ _ F b (by rw[L];exact J),fun b J=>?_,?_⟩
 ·rw[←G];exact @OK.old I _ _ _ _ _ _ _ F b (by rw[G];exact(H b J).1) (H b J).2
 ·rw[←G];exact @OK.size I _ _ _ _ _ _ _ F
theorem Pt.go (hp:Pt I C1 σ a w S) (Y:iU P dr) (he:C1.nt=nt) (n:Nat) (c:aF) {X:Prop}{E:sG→St→Prop} (hτ:∀p,p∈τ.h→iF p.2∧p.2.fz=false)
  (hv:∀C:Ctx,C.nt=nt→@aCq I P C dr n c (fun σ'=>LeL σ' τ∧X) E σ) (hE:∀i σ,¬E (.exit i) σ) (hR:∀C a w,Later C1 C→@cK I C (E .ret) a w→Q .ret a w)
  (hN:∀O w' S',Past S w S' w'→Pt I C1 τ O w' S'→X→At P nt dr (kP n c) Q O w'):At P nt dr c Q a w:=by
 have hf:=hp;obtain⟨hM,hr,C,ρ,κ,hj,U,hc,hl,L⟩:=hp;have F:C.nt=nt:=hl.nt.trans he
 have hd:∀b,S b→b<w.heap.size∧¬C.Mut b:=fun b hb=>⟨hf.dom b hb,fun hm=>by
   obtain⟨n,hn,hx⟩:=hc b hm;obtain⟨b',H⟩:=Option.isSome_iff_exists.1 hn;exact @OK.noS I _ _ _ _ _ _ _ L _ _ H (hr _ (fP H)).2 _ hx hb⟩
 refine @At.upto P nt dr Q I C Y F _ E (fun i a w J=>?_) (fun a w J=>hR C a w hl J) n c σ a w S ρ κ L (hv C F) fun O w' J=>?_
 ·obtain⟨σ',_,_,_,h,_⟩:=J;exact(hE i σ' h).elim
 ·obtain⟨σ',S',ρ',κ',⟨ha,hX⟩,M⟩:=J;have G:=@OK.le I _ _ _ _ _ _ _ _ M ha;exact hN O w' S' (Pt.later hj U hd G) (Pt.of_ok hM hτ hl G) hX
theorem At.regionX [Envs] {P:Program}{C:Ctx}{a:Act}{w:World}{S:Nat→Prop}{ρ:Name→Option Nat}{κ:Name→Nat}{nt:Nat}{dr:Nat→Array Oper→Option (List Nat)}{Q:Exit→Act→World→Prop}{pre post:List aJ}{o:aJ}{out:List Nat}{σ:St} (hf:OK C σ.f a w S ρ κ) (he:C.nt=nt) (hg:o.guard=none)
  (hv:vc P (fun σ1=>∀(a:Act) (w:World) (S:Nat→Prop) (ρ:Name→Option Nat) (κ:Name→Nat) (op:Oper) (ops:Array Oper),OK C σ1.f a w S ρ κ→mU P nt ops op=some o.bare→op.wp P a w (fun a w=>∃I':Envs,@aGa I' P nt post Q a w) Q) pre σ) :
  At P nt dr (.region (pre++o::post) out []) Q a w:=by
 intro c F hm;cases c
 case region id ops draw =>
  simp only[bF,aF.bare] at F;split at F
  ·rename_i hp G;cases ho:aAQ P nt ops ops.toList with
   |none=>rw[ho] at F;cases F
   | some l =>
    rw[ho] at F;simp only[Option.map_some,Option.some.injEq,aF.region.injEq,true_and] at F;obtain⟨hl,ha⟩:=F;subst hl;subst ha;cases draw with
    | true =>
     have hd:dr nt ops=some []:=by simpa using G
     simp[zB,hd] at hm
    | false =>
     obtain⟨g1,g2⟩:=kM ho
     have hs:∀(j:Nat) (ao:aJ),(pre++o::post)[j]? = some ao→∃op,ops[j]? = some op∧mU P nt ops op=some ao.bare:=fun j ao J=>by
      obtain⟨op,U,Y⟩:=g2 j ao J;exact⟨op,by simpa using U,Y⟩
     refine wp_region ?_
     have L:ops.size=pre.length+(post.length+1):=by
      have:ops.size=(pre++o::post).length:=by simpa using g1
      rw[this];simp
     rw[List.range_eq_range',L];refine lG (C:=C) (K:=_) (e:=pre.length) (fun σ1 a w S ρ κ hK M=>?_) pre 0 (by omega) (fun j ao J=>?_) σ a w S ρ κ hv hf
     ·obtain⟨op,h1,h2⟩:=hs pre.length o (by simp);obtain⟨_,_,_,h4⟩:=iT h2
      have hb:op.guard=none:=by
       rcases h4 with⟨h,_⟩|⟨j,hn,t,_,h,_⟩
       ·exact h
       ·rw[hg] at h;cases h
      rw[List.range'_succ,wpOps_cons];unfold wpOp;rw[h1];have:Region.wanted op (yielded ops a.tmps)=true:=by simp[Region.wanted,hb]
      simp only[this,if_true];refine .inl (Oper.wp_mono (fun a' w' hr=>?_) (hK a w S ρ κ op ops M h2));obtain⟨I',C',σ',S',ρ',κ',K',e1,e2,e3,e4⟩:=hr
      letI:=I'
      subst e1
      have:=lG (C:=C') (P:=P) (ops:=ops) (Q:=Q) (K:=K') (e:=pre.length+1+post.length) (m:=0) (fun σ2 a2 w2 S2 ρ2 κ2 hk O=>by
        simp only[List.range'_zero];exact e4 a2 w2 ⟨σ2,S2,ρ2,κ2,hk,O⟩) post (pre.length+1) rfl (fun j ao J=>by
        obtain ⟨H,U,Y⟩:=hs (pre.length+1+j) ao (by
          rw[List.getElem?_append_right (by omega),show pre.length+1+j-pre.length=j+1 by omega];simpa using J)
        exact⟨H,U,Y⟩) σ' a' w' S' ρ' κ' e3 e2
      simpa using this
     ·obtain⟨H,U,Y⟩:=hs j ao (by
        have:j<pre.length:=by
          rcases Nat.lt_or_ge j pre.length with h|h
          · exact h
          · simp[List.getElem?_eq_none h] at J
        rw[List.getElem?_append_left this];exact J)
      exact⟨H,by simpa using U,by rw[he];exact Y⟩
  ·cases F
 all_goals(simp only[bF,aF.bare] at F;first|(cases F;done)|(split at F<;>simp at F)|(simp at F))
theorem Pt.call (hp:Pt I C1 σ a w S) (hj:C1.nt=nt) {pre post:List aJ}{f:FuncId}{ts:List Nat}{vs:List Value}{bor:List Nat}{d:Nat}{out:List Nat}{y:aF} (hb:mW P f) (hd:d<nt)
  (hτ:∀p,p∈τ.h→iF p.2∧p.2.fz=false) (hv:@vc I P (fun σ'=>LeL σ' τ) pre σ) (hl:ts.length=vs.length) (qa:∀i,i<ts.length→look τ.s (ts.getD i 0)=.v (vs.getD i undef))
  (h : ∀a' w' S',Past S w S' w'→Pt I C1 τ a' w' S'→Calls P f vs.toArray w' fun e M=>∃u,e=.returned u∧∃F L G,Pt F C1 ⟨L,τ.h⟩ a' M G∧∃τ':St,@vc F P (fun σ'=>LeL σ' τ') post ⟨(d,.v u)::L,τ.h⟩∧(∀p,p∈τ'.h→iF p.2∧p.2.fz=false)∧
    ∀a3 w3 S3,Past G M S3 w3→Pt F C1 τ' a3 w3 S3→At P nt dr y Q a3 w3) :
  At P nt dr (.seq (.region (pre++⟨some d,.call (.func f) (ts.map .tmp) bor,none⟩::post) out []) y) Q a w:=by
 have h8:=hp;obtain⟨hM,hr,C,ρ,κ,qb,h4,h6,hq,hw⟩:=hp;have O:C.nt=nt:=hq.nt.trans hj
 have h7:∀b,S b→b<w.heap.size∧¬C.Mut b:=fun b hb=>⟨h8.dom b hb,fun hm=>by
   obtain⟨n,hn,hx⟩:=h6 b hm;obtain⟨b',H⟩:=Option.isSome_iff_exists.1 hn;exact @OK.noS I _ _ _ _ _ _ _ hw _ _ H (hr _ (fP H)).2 _ hx hb⟩
 refine At.seq (@At.regionX I P C a w S ρ κ nt dr _ pre post _ out σ hw O rfl ?_);refine @aDg I P (fun σ'=>LeL σ' τ) _ (fun σ1 hs=>?_) _ _ hv;intro a' w' S' ρ' κ' op ops hy ho;have J:=@OK.le I _ _ _ _ _ _ _ _ hy hs;have hk:=Pt.later qb h4 h7 J;have h0:Pt I C1 τ a' w' S':=Pt.of_ok hM hτ hq J;refine @aDB I P C a' w' S' ρ' κ' ops τ.f op _ f (ts.map .tmp) bor (by rw[O];exact ho) rfl J hb _ _ ?_
 have he:((ts.map Operand.tmp).map a'.eval).toArray=vs.toArray:=by
  congr 1;refine List.ext_getElem (by simp[hl]) fun i h1 h2=>?_;have hi:i<ts.length:=by simpa using h1
  have:=h0.valv (qa i hi);have e1:ts.getD i 0=ts[i]:=by simp[hi]
  have e2:vs.getD i undef=vs[i]:=by simp[h2]
  rw[e1,e2] at this;simp only[List.getElem_map];exact this
 rw[he];refine(h a' w' S' hk h0).mono ?_;rintro e M ⟨u,rfl,F,L,G,hpt2,τ',hv2,hτ',hrest⟩;have hz:=hpt2.put (d:=d) (by rw[hj];exact hd) u;have hf:=hz.dom;obtain⟨h3,h9,C3,ρ3,κ3,qc,h5,ht,U,Y⟩:=hz;have hc:C3.nt=nt:=U.nt.trans hj
 have hu:∀b,G b→b<M.heap.size∧¬C3.Mut b:=fun b hb=>⟨hf b hb,fun hm=>by
   obtain⟨n,hn,hx⟩:=ht b hm;obtain⟨b',H⟩:=Option.isSome_iff_exists.1 hn;exact @OK.noS F _ _ _ _ _ _ _ Y _ _ H (h9 _ (fP H)).2 _ hx hb⟩
 refine⟨u,rfl,F,C3,⟨(d,.v u)::L,τ.h⟩,G,ρ3,κ3,fun σ'=>LeL σ' τ',hc,Y,hv2,fun a3 w3 hg=>?_⟩;obtain⟨S3,ρ4,κ4,ha⟩:=@cK.le F _ _ _ _ hg;exact hrest a3 w3 S3 (Pt.later qc h5 hu ha) (Pt.of_ok h3 hτ' U ha)
end
section
variable [Envs] {P:Program}{C:Ctx}{a:Act}{w:World}{S:Nat→Prop}{ρ:Name→Option Nat}{κ:Name→Nat}
theorem Own.notS {x:Option Nat}{c k:Nat}{rows:List (List AV)}{v:Value} (L:Own S w x c k rows v) {b:Nat} (G:x=some b):¬S b:=by
 obtain⟨_,H|⟨y,cs,T,fr,F,M,O,J,_⟩⟩:=L.blk
 ·rw[G] at H;cases H.1
 ·dsimp only at F;rw[G] at F;obtain rfl:=Option.some.inj F;exact J rfl
end
section
variable {P:Program}
theorem Own.rc {S:Nat→Prop}{w:World}{x:Option Nat}{c k:Nat}{rows:List (List AV)}{v:Value} (h:Own S w x c k rows v):RC (fun b=>x=some b) w (.sl k rows) v:=by
 letI:Envs:=⟨[]⟩
 obtain⟨_,base,cap,rfl,h1,h2,h3,_⟩:=h.loc k rows false rfl;obtain⟨Y,H⟩:=h.blk;rcases H with⟨hn,J⟩|⟨y,cs,T,fr,g1,g2,g3,_,_,g5,g6,g7⟩
 ·subst J;refine .sl k [] base cap 0 0 (fun _=>undef) (by simp) (by simp) (by simp) (by simp) (by simp) ⟨by omega,h2⟩
 ·refine .sl k rows base cap y 0 (fun i=>cs.getD i undef) (fun U=>?_) (fun i j hi M=>?_) (fun i j hi M=>(g7 i j hi M).1) (fun i j hi M=>?_) Y ⟨by omega,h2⟩
  ·obtain⟨z,hz,F⟩:=h3 (List.length_pos_iff.2 U);have G:x=some y:=g1;have L:x=some z:=hz;rw[G] at L;obtain rfl:=Option.some.inj L;exact⟨by rw[F];simp,G⟩
  ·have O:i*k+j<cs.size:=by
    have:i*k+k≤rows.length*k:=by rw[←Nat.succ_mul];exact Nat.mul_le_mul_right k hi
    omega
   simp[World.cell?,g2,O]
  ·have hm:rows.getD i []∈rows:=by
    rw[List.getD_eq_getElem?_getD,List.getElem?_eq_getElem hi];exact List.getElem_mem _
   exact RC.mono (S:=fun _=>False) (w:=w) (fun _ h=>h.elim) (fun _ h=>h.elim) (((g7 i j hi M).2).flat (dA (h.fl _ hm)))
theorem vZ {w:World}{O D:Nat→Prop}{ss:List Value}{xs:List AV}{v:Value} (U:RC O w (.sl 1 (ss.map fun s=>[AV.v s])) v) (hl:xs.length=ss.length) (hr:∀j,j<ss.length→RC D w (xs.getD j .junk) (ss.getD j undef)) :
  RC (fun b=>O b∨D b) w (.sl 1 (xs.map fun x=>[x])) v:=by
 letI:Envs:=⟨[]⟩
 generalize hL:(ss.map fun s=>[AV.v s])=L at U;cases U with
 | sl _ _ base cap x off ys hb hc ho hrr hk hcap =>
  subst hL;have e:(ss.map fun s=>[AV.v s]).length=(xs.map fun x=>[x]).length:=by simp[hl]
  have G:(ss.map fun s=>[AV.v s]).length=ss.length:=by simp
  have F:(xs.map fun x=>[x]).length=ss.length:=by simp[hl]
  rw[e];refine .sl 1 _ base cap x off ys (fun M=>?_) (fun i j hi J=>hc i j (by rw[G];rw[F] at hi;exact hi) J) (fun i j hi J=>ho i j (by rw[G];rw[F] at hi;exact hi) J) (fun i j hi J=>?_) (fun i hi=>?_) (by rw[←e];exact hcap)
  ·have:=hb (fun h=>M (List.length_eq_zero_iff.1 (by rw[F,←G,h];rfl)));exact⟨this.1,.inl this.2⟩
  ·obtain rfl:j=0:=by omega
   have H:i<ss.length:=by rw[F] at hi;exact hi
   have Y:=hrr i 0 (by rw[G];exact H) (by omega);have e1:((ss.map fun s=>[AV.v s]).getD i []).getD 0 .junk=.v ss[i]:=by simp[H]
   rw[e1] at Y;have e3:ys (i*1+0)=ss[i]:=bM (ρ:=fun _=>none) (κ:=fun _=>0) (h:=fun _=>none) (.clo Y);rw[e3];have hx:i<xs.length:=by omega
   have e2:((xs.map fun x=>[x]).getD i []).getD 0 .junk=xs.getD i .junk:=by simp[hx]
   rw[e2];have:=hr i H;have e4:ss.getD i undef=ss[i]:=by simp[H]
   rw[e4] at this;exact this.mono (fun _ h=>.inr h) fun _ _=>rfl
  ·have:i<xs.length:=by rw[F] at hi;omega
   simp[this]
structure Mem where
 x0:Option Nat
 ss:List Value
 xs:Nat→Option Nat
 cs:Nat→Nat
def Mem.D (m:Mem) (b:Nat):Prop:=m.x0=some b∨∃i,i<m.ss.length∧m.xs i=some b
structure Dk (w:World) (ls:List (List (List AV))) (v:Value) (m:Mem):Prop where
 root:RC (fun b=>m.x0=some b) w (.sl 1 (m.ss.map fun s=>[AV.v s])) v
 rows:pM (fun b=>m.x0=some b) w 1 ls m.ss m.xs m.cs
 lt:∀b,m.D b→b<w.heap.size
theorem Dk.same {w w':World}{ls:List (List (List AV))}{v:Value}{m:Mem} (h:Dk w ls v m) (H:w.heap.size≤w'.heap.size) (G:∀b,m.D b→w'.heap[b]? = w.heap[b]?):Dk w' ls v m:=
 letI:Envs:=⟨[]⟩
 ⟨h.root.mono (fun _ h=>h) fun b F=>G b (.inl F),h.rows.mono (fun i b hi F=>(h.rows.row i hi).no F) fun i b hi F=>G b (.inr ⟨i,hi,F⟩),fun b F=>Nat.lt_of_lt_of_le (h.lt b F) H⟩
theorem Dk.rd {w:World}{ls:List (List (List AV))}{v:Value}{m:Mem} (h:Dk w ls v m):RC m.D w (.sl 1 (ls.map fun r=>[.sl 1 r])) v:=by
 letI:Envs:=⟨[]⟩
 have J:=h.rows.len
 have:=vZ (D:=fun b=>∃i,i<m.ss.length∧m.xs i=some b) (xs:=ls.map fun r=>AV.sl 1 r) h.root (by simp[J]) fun j G=>by
  have F:j<ls.length:=by omega
  have e:(ls.map fun r=>AV.sl 1 r).getD j .junk=.sl 1 (ls.getD j []):=by simp[F]
  rw[e];exact(h.rows.row j G).rc.mono (fun b H=>⟨j,G,H⟩) fun _ _=>rfl
 rw[List.map_map] at this;exact this.mono (fun _ h=>h) fun _ _=>rfl
theorem Dk.nil (w:World):Dk w [] (.slice none 0 0) ⟨none,[],fun _=>none,fun _=>0⟩:=
 ⟨.sl 1 [] none 0 0 0 (fun _=>undef) (by simp) (by simp) (by simp) (by simp) (by simp) ⟨by simp,by decide⟩,⟨rfl,by simp,by simp⟩,fun b F=>by
   rcases F with h|⟨i,hi,_⟩
   · cases h
   · simp at hi⟩
def aJL (w w':World) (ls:List (List (List AV))) (v:Value):Prop:=∃m,Dk w' ls v m∧∀b,m.D b→w.heap.size≤b
theorem OK.put1R [Envs] {C:Ctx}{σ:St}{a:Act}{w:World}{S:Nat→Prop}{ρ:Name→Option Nat}{κ:Name→Nat} (G:OK C σ.f a w S ρ κ) {d:Nat} (H:d<C.nt) {r:AV}{u:Value} (J:RC S w r u):OK C (⟨(d,r)::σ.s,σ.h⟩:St).f (a.put (some d) u) w S ρ κ:=by
 have:=G.put (x:=r) (v:=u) (d:=some d) (.clo J) (fun d' F=>by
   obtain rfl:=Option.some.inj F;exact H)
 have e:(⟨(d,r)::σ.s,σ.h⟩:St).f=⟨upd σ.f.s (some d) r,σ.f.h⟩:=by
  simp[St.f,look,upd,eq_comm]
 rw[e];exact this
variable {I:Envs}{C1:Ctx}{σ τ:St}{a:Act}{w:World}{S:Nat→Prop}
theorem Pt.putR (h:Pt I C1 σ a w S) {d:Nat} (U:d<C1.nt) {r:AV}{u:Value} (Y:RC S w r u):Pt I C1 ⟨(d,r)::σ.s,σ.h⟩ (a.put (some d) u) w S:=by
 obtain⟨O,J,C,ρ,κ,L,F,G,M,H⟩:=h;refine⟨O,J,C,ρ,κ,L,F,G,M,?_⟩;exact @OK.put1R I _ _ _ _ _ _ _ H d (by rw[M.nt];exact U) r u Y
variable {nt:Nat}{dr:Nat→Array Oper→Option (List Nat)}{Q:Exit→Act→World→Prop}
theorem Pt.grow (h:Pt I C1 σ a w S) {w':World} (G:mZ w w') {D:Nat→Prop} (J:∀b,D b→w.heap.size≤b∧b<w'.heap.size) (H:List (Nat×AV)) (U:∀p,p∈H→p.2=look σ.s p.1∧(flat p.2=true∨dY p.2=true)) :
  Pt (keepE (fun b=>S b∨D b) w') C1 ⟨H,σ.h⟩ a w' (fun b=>S b∨D b):=
 h.jump (fun _=>False) G.size (fun b F _=>G.old b F) (fun _ h=>h.elim) G.out (fun b F=>F.elim (fun F=>⟨Nat.lt_of_lt_of_le (h.dom b F) G.size,.inl F⟩) fun F=>⟨(J b F).2,.inr (J b F).1⟩) (fun b F=>.inl (h.sub b F)) H fun p O=>by
  obtain⟨e,M|L⟩:=U p O
  ·exact .inl ⟨e,M⟩
  ·right
   rw[e] at L⊢;exact RC.mono (fun b F=>.inl F) (fun b F=>G.old b (h.dom b F)) (h.val L)
theorem Pt.marked (h:Pt I C1 σ a w S) {w':World}{D:Nat→Prop} (F:w.heap.size≤w'.heap.size) (hw:∀b,b<w.heap.size→¬D b→w'.heap[b]? = w.heap[b]?) (O:w'.os=w.os∧w'.output=w.output)
  (M:∀b,D b→C1.w0.heap.size≤b∧S b) {K:Nat→Prop} (H:∀b,K b→S b) (L:∀b,C1.S0 b→K b) (G:List (Nat×AV)) (Y:∀p,p∈G→p.2=look σ.s p.1∧flat p.2=true):Pt (keepE K w') C1 ⟨G,σ.h⟩ a w' K:=
 h.jump D F hw M O (fun b J=>⟨Nat.lt_of_lt_of_le (h.dom b (H b J)) F,.inl (H b J)⟩) L G fun p U=>.inl (Y p U)
theorem Pt.le (h:Pt I C1 σ a w S) (F:LeL σ τ) (U:∀p,p∈τ.h→iF p.2∧p.2.fz=false):Pt I C1 τ a w S:=by
 obtain⟨H,Y,C,ρ,κ,O,J,M,L,G⟩:=h;exact Pt.of_ok H U L (@OK.le I _ _ _ _ _ _ _ _ G F)
theorem Pt.ren (h:Pt I C1 σ a w S) {n m:Name} (O:n≠m) (J:bT m σ=true) (Y:∀p,p∈(mX n m σ).h→iF p.2∧p.2.fz=false):Pt I C1 (mX n m σ) a w S:=by
 obtain⟨G,hr,C,ρ,κ,U,H,M,L,F⟩:=h;obtain⟨ρ',κ',h'⟩:=@OK.mX I C a w S ρ κ σ n m O J F;exact Pt.of_ok G Y L h'
theorem Pt.out (h:Pt I C1 σ a w S):mZ C1.w0 w:=by
 obtain⟨G,M,C,ρ,κ,O,H,L,J,F⟩:=h;exact @OK.grew I _ _ _ _ _ _ _ (@OK.back I _ _ _ _ _ _ _ J _ F) fun b _=>G b
theorem Pt.bury (h:Pt I C1 σ a w S) {n:Name}{k:Nat}{rows:List (List AV)} (O:aB σ.h n=some (.arr k rows false)) (hk:∀r,r∈rows→jQ r=true) {t:Nat} (ht:look σ.s t=.agg [.loc n 0 rows.length]) (ha:∀p,p∈(aW n σ).h→iF p.2∧p.2.fz=false) :
  ∃ s x c,(∃b m c',s=Value.slice b m c')∧Own (fun _=>False) w x c k rows s∧(∀b,x=some b→C1.w0.heap.size≤b∧b<w.heap.size∧¬S b)∧
   ∀ s':List (Nat×AV),(∀p,p∈s'→(p.2=look (aW n σ).s p.1∧flat p.2=true)∨(p.2=look σ.s p.1∧dY p.2=true)∨p=(t,.agg [.v s]))→
    Pt (keepE (fun b=>S b∨x=some b) w) C1 ⟨s',(aW n σ).h⟩ a w (fun b=>S b∨x=some b):=by
 have M:=h.base;have U:=h.dom;have hf:=h.sub;have hg:∀{t:Nat},dY (look σ.s t)=true→RC S w (look σ.s t) (a.tmps.getD t undef):=fun hc=>h.val hc;obtain⟨hM,hr,C,ρ,κ,h5,h3,h4,hl,G⟩:=h;have hs:=@OK.slots I _ _ _ _ _ _ _ G t;rw[show σ.f.s t=_ from ht] at hs;obtain⟨vs,hv,h0,hw⟩:=gL hs;have hu:RV S w ρ κ σ.f.h (.loc n 0 rows.length) (vs.getD 0 undef):=hw 0 (by simp);have H:=@OK.own I C a w S ρ κ σ.f G n k rows O hk _ hu;have ho:∀b,ρ n=some b→¬S b:=fun b F=>H.no F;have he:∀b,ρ n=some b→b<w.heap.size:=fun b F=>G.hok.lt (n:=n) (by rw[show σ.f.h n=_ from O];rfl) F
 have Y:∀b,ρ n=some b→C1.w0.heap.size≤b:=fun b F=>by
  rcases(@OK.back I _ _ _ _ _ _ _ hl _ G).mine n b (by rw[show σ.f.h n=_ from O];rfl) F with h|h
  ·exact h
  ·exact(hM b h).elim
 obtain ⟨b0,c0,hz⟩:∃b0 c0,vs.getD 0 undef=.slice b0 rows.length c0:=by
  obtain⟨_,b1,c1,e,_⟩:=H.loc k rows false rfl;exact⟨b1,c1,e⟩
 refine⟨vs.getD 0 undef,ρ n,κ n,⟨_,_,_,hz⟩,H.mono (fun _ _ h=>h) (fun _ _=>rfl),fun b F=>⟨Y b F,he b F,ho b F⟩,fun s' hy=>?_⟩;have hd:@OK I C (aW n σ).f a w S ρ κ:=by rw[nX];exact G.kill n
 have hn:∀m,((aW n σ).f.h m).isSome→m≠n∧(σ.f.h m).isSome:=fun m L=>by
  rw[nX] at L;simp only[nA] at L;split at L
  ·cases L
  ·rename_i hq;refine⟨hq,?_⟩;cases hx:σ.f.h m with
   |none=>rw[hx] at L;cases L
   |some b=>rfl
 obtain ⟨h1,h2⟩:=OK.jump I (keepE (fun b=>S b∨ρ n=some b) w) hl hM hd (fun _=>False) (Nat.le_refl _) (fun _ _ _=>rfl) (fun _ h=>h.elim) ⟨rfl,rfl⟩ (S':=fun b=>S b∨ρ n=some b) (fun b F=>F.elim (U b) (he b)) (fun b F=>.inl (hf b F))
  (fun b F=>F.elim (M b) fun h=>.inr (Y b h)) (fun b F m L hx=>by
    obtain⟨g1,g2⟩:=hn m L;rcases F with h|h
    · obtain⟨b',J⟩:=Option.isSome_iff_exists.1 g2
      exact @OK.noS I _ _ _ _ _ _ _ G _ _ J (hr _ (fP J)).2 _ hx h
    · exact g1 (G.hok.inj m n b g2 (by rw[show σ.f.h n=_ from O];rfl) hx h)) tX ha s' (fun p hp=>by
    rcases hy p hp with h|⟨e,hc⟩|rfl
    · exact .inl h
    · right
      rw[e] at hc⊢;exact RC.mono (fun b O=>.inl O) (fun _ _=>rfl) (hg hc)
    · right
      show RC _ w (.agg [.v (vs.getD 0 undef)]) (a.tmps.getD t undef)
      rw[hv];refine .agg _ _ h0 fun j hj=>?_;obtain rfl:j=0:=by simpa using hj
      exact .v _)
 exact⟨hM,ha,_,ρ,κ,rfl,rfl,fun _ h=>h,h2,h1⟩
theorem Pt.cond (h:Pt I C1 σ a w S) {t:Nat}{b:Bool}{x y:aF} (F:look σ.s t=.v (.bool b)) (G:b=true→At P nt dr x Q a w) (H:b=false→At P nt dr y Q a w):At P nt dr (.cond (.tmp t) x y) Q a w:=
 At.cond (t:=b) (by have:=h.valv F;exact this) G H
end
end Go.Vs
