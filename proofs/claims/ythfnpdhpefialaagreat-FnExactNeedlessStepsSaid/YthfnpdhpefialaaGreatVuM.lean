/- slices.Clone and slices.Delete at rows, out of what their walks say of cells. -/
import Derived.Test.YthfnpdhpefialaaGreatVuA
import Derived.Below
import Derived.Deep.Upon
import Derived.Deep.Draws
import Derived.Lib.SliceRun
import Derived.Laws.AppendOwn
set_option linter.all false
set_option maxHeartbeats 8000000
namespace Go.Vs
section
variable {P:Program}
theorem RC.flatW [Envs] {S S':Nat→Prop}{w w':World}{x:AV}{v:Value} (h:RC S w x v) (hf:Vs.flat x=true):RC S' w' x v:=
 RC.mono (S:=fun _=>False) (w:=w) (fun _ h=>h.elim) (fun _ h=>h.elim) (RC.flat h hf)
theorem RV.flatW [Envs] {S S':Nat→Prop}{w w':World}{ρ:Name→Option Nat}{κ:Name→Nat}{hh:Name→Option Blk}{x:AV}{v:Value} (h:RV S w ρ κ hh x v) (hf:Vs.flat x=true):RV S' w' ρ κ hh x v:=
 (show RV (fun _=>False) w ρ κ hh x v from RV.flat h hf).mono (fun _ h=>h.elim) (fun _ h=>h.elim) fun m _=>NameOK.refl _ _ _ _
theorem OK.namesLt [Envs] {C:Ctx}{σ:FSt}{a:Act}{w:World}{S:Nat→Prop}{ρ:Name→Option Nat}{κ:Name→Nat} (hok:OK C σ a w S ρ κ):∀n x,(σ.h n).isSome→ρ n=some x→x<w.heap.size:=fun n x hn hx=>hok.hok.lt hn hx
theorem OK.put1 [Envs] {C:Ctx}{σ:St}{a:Act}{w:World}{S:Nat→Prop}{ρ:Name→Option Nat}{κ:Name→Nat} (hok:OK C σ.f a w S ρ κ) {d:Nat} (hd:d<C.nt) (u:Value):OK C (⟨(d,.v u)::σ.s,σ.h⟩:St).f (a.put (some d) u) w S ρ κ:=by
 have:=hok.put (x:=.v u) (v:=u) (d:=some d) (.clo (.v u)) (fun d' hd'=>by
   obtain rfl:=Option.some.inj hd'
   exact hd)
 have e:(⟨(d,.v u)::σ.s,σ.h⟩:St).f=⟨upd σ.f.s (some d) (.v u),σ.f.h⟩:=by
  simp[St.f,look,upd,eq_comm]
 rw[e]
 exact this
theorem OK.jump (I I':Envs) {C1 C:Ctx}{σ:St}{a:Act}{w w':World}{S:Nat→Prop}{ρ:Name→Option Nat}{κ:Name→Nat} (hl:Later C1 C) (hM1:∀b,¬C1.Mut b) (hok:@OK I C σ.f a w S ρ κ)
  (D:Nat→Prop) (hsz:w.heap.size≤w'.heap.size) (hw:∀b,b<w.heap.size→¬D b→w'.heap[b]? = w.heap[b]?) (hD:∀b,D b→C1.w0.heap.size≤b∧∀n,(σ.f.h n).isSome→ρ n≠some b)
  (ho:w'.os=w.os∧w'.output=w.output) {S':Nat→Prop} (hS:∀b,S' b→b<w'.heap.size) (h0:∀b,C1.S0 b→S' b) (h1:∀b,S' b→C1.S0 b∨C1.w0.heap.size≤b)
  (hN:∀b,S' b→∀n,(σ.f.h n).isSome→ρ n≠some b) (he:@Env I' S' w') (hcl:∀p,p∈σ.h→flatB p.2∧p.2.fz=false) (s':List (Nat×AV))
  (hs:∀p,p∈s'→(p.2=look σ.s p.1∧flat p.2=true)∨RC S' w' p.2 (a.tmps.getD p.1 undef)) :
  @OK I' (C.anew w' S' σ.f.h ρ) (⟨s',σ.h⟩:St).f a w' S' ρ κ∧Later C1 (C.anew w' S' σ.f.h ρ):=by
 have hb:=@OK.back I _ _ _ _ _ _ _ hl _ hok
 have hlt:∀n x,(σ.f.h n).isSome→ρ n=some x→x<w.heap.size:=@OK.namesLt I _ _ _ _ _ _ _ hok
 have hkeep:∀n x,(σ.f.h n).isSome→ρ n=some x→w'.heap[x]? = w.heap[x]?:=fun n x hn hx=>hw x (hlt n x hn hx) fun hd=>(hD x hd).2 n hn hx
 have hlk:∀(s:List (Nat×AV)) t,look s t=.junk∨(t,look s t)∈s:=by
  intro s
  induction s with
  |nil=>intro t;left;rfl
  | cons p r ih =>
   intro t
   simp only[look]
   split
   ·rename_i h;subst h;right;exact List.mem_cons_self
   ·rcases ih t with h|h
    ·left;exact h
    ·right;exact List.mem_cons_of_mem _ h
 obtain⟨g1,g2,g3,⟨j1,j2,j3,j4⟩,g5,g6,g7,g8,g9,g10,g11⟩:=hb
 obtain⟨o1,o2,o3,⟨k1,k2,k3,k4⟩,o5,o6,o7,o8,o9,o10,o11⟩:=hok
 constructor
 ·refine⟨o1,o2,fun t=>?_,⟨fun n b hb=>?_,k2,hS,he⟩,Nat.le_refl _,fun _ _ _=>rfl,fun n x h1 h2=>.inr ⟨n,h1,h2⟩,fun _ h=>h,fun b hb=>.inl hb,⟨rfl,rfl⟩,o11⟩
  ·show RV S' w' _ _ _ (look s' t) _
   rcases hlk s' t with h|h
   ·rw[h];exact .junk _
   ·rcases hs _ h with⟨e,hf⟩|e
    ·have h1:=o3 t
     have e':look s' t=look σ.s t:=e
     have hf':flat (look s' t)=true:=hf
     rw[e'] at hf'⊢
     exact RV.flatW h1 hf'
    ·exact .clo e
  ·have hb':σ.f.h n=some b:=hb
   have hk:=k1 n b hb'
   have hn:∀x,ρ n=some x→¬S' x:=fun x hx hs=>hN x hs n (by rw[hb'];rfl) hx
   have hu:∀x,ρ n=some x→w'.heap[x]? = w.heap[x]?:=fun x hx=>hkeep n x (by rw[hb'];rfl) hx
   obtain⟨hf,hz⟩:=hcl _ (hlook_mem2 hb')
   cases b with
   | var c z =>
    obtain⟨x,cs,T,fr,g1,g2,g3,g4,g4',g5,g6,g7⟩:=hk
    have hz':z=false:=hz
    subst hz'
    exact⟨x,cs,T,fr,g1,by rw[hu x g1];exact g2,g3,fun _ hx=>hn x g1 hx,fun h=>(by cases h),g5,g6,fun j hj=>⟨(g7 j hj).1,RV.flatW (g7 j hj).2 (flatL_getD hf)⟩⟩
   | arr k l z =>
    have hz':z=false:=hz
    subst hz'
    obtain⟨g0,⟨g1,g2⟩|⟨x,cs,T,fr,g1,g2,g3,g4,g4',g5,g6,g7⟩⟩:=hk
    ·exact⟨g0,.inl ⟨g1,g2⟩⟩
    ·refine⟨g0,.inr ⟨x,cs,T,fr,g1,by rw[hu x g1];exact g2,g3,fun _ hx=>hn x g1 hx,fun h=>(by cases h),g5,g6,fun i j hi hj=>⟨(g7 i j hi hj).1,RC.flatW (g7 i j hi hj).2 (flatL_getD (hf _ ?_))⟩⟩⟩
     rw[List.getD_eq_getElem?_getD,List.getElem?_eq_getElem hi];exact List.getElem_mem _
 ·refine⟨hl.nt,Nat.le_trans g5 hsz,fun b hb hm=>?_,fun b hb=>?_,h0,fun b hb=>(h1 b hb).imp_right .inl,⟨ho.1.trans g10.1,ho.2.trans g10.2⟩,hl.base⟩
  ·show w'.heap[b]? = _
   rw[hw b (Nat.lt_of_lt_of_le hb g5) fun hd=>(by have:=(hD b hd).1;omega)]
   exact g6 b hb hm
  ·obtain⟨n,q1,q2⟩:=hb
   exact g7 n b q1 q2
structure Pt (I:Envs) (C1:Ctx) (σ:St) (a:Act) (w:World) (S:Nat→Prop):Prop where
 nomut:∀b,¬C1.Mut b
 rows:∀p,p∈σ.h→flatB p.2∧p.2.fz=false
 ex:∃(C:Ctx) (ρ:Name→Option Nat) (κ:Name→Nat),C.w0=w∧C.S0=S∧(∀b,C.Mut b→∃n,(σ.f.h n).isSome∧ρ n=some b)∧Later C1 C∧@OK I C σ.f a w S ρ κ
variable {I:Envs}{C1:Ctx}{σ τ:St}{a:Act}{w:World}{S:Nat→Prop}
theorem Pt.of_ok {C:Ctx}{ρ:Name→Option Nat}{κ:Name→Nat} (hM:∀b,¬C1.Mut b) (hr:∀p,p∈σ.h→flatB p.2∧p.2.fz=false) (hl:Later C1 C) (hok:@OK I C σ.f a w S ρ κ):Pt I C1 σ a w S:=
 ⟨hM,hr,C.anew w S σ.f.h ρ,ρ,κ,rfl,rfl,fun _ h=>h,hl.trans (@OK.later I _ _ _ _ _ _ _ hok),@OK.anew I _ _ _ _ _ _ _ hok⟩
theorem Pt.dom (h:Pt I C1 σ a w S):∀b,S b→b<w.heap.size:=by
 obtain⟨_,_,C,ρ,κ,_,_,_,_,hok⟩:=h
 exact hok.hok.dom
theorem Pt.env (h:Pt I C1 σ a w S):@Env I S w:=by
 obtain⟨_,_,C,ρ,κ,_,_,_,_,hok⟩:=h
 exact @HOK.env I _ _ _ _ _ (@OK.hok I _ _ _ _ _ _ _ hok)
theorem Pt.base (h:Pt I C1 σ a w S):∀b,S b→C1.S0 b∨C1.w0.heap.size≤b:=by
 obtain⟨hM,_,C,ρ,κ,_,_,_,hl,hok⟩:=h
 intro b hb
 rcases(@OK.back I _ _ _ _ _ _ _ hl _ hok).Snew b hb with h|h|h
 ·exact .inl h
 ·exact .inr h
 ·exact(hM b h).elim
theorem Pt.sub (h:Pt I C1 σ a w S):∀b,C1.S0 b→S b:=by
 obtain⟨hM,_,C,ρ,κ,_,_,_,hl,hok⟩:=h
 exact(@OK.back I _ _ _ _ _ _ _ hl _ hok).S0
theorem Pt.size (h:Pt I C1 σ a w S):C1.w0.heap.size≤w.heap.size:=by
 obtain⟨hM,_,C,ρ,κ,_,_,_,hl,hok⟩:=h
 exact(@OK.back I _ _ _ _ _ _ _ hl _ hok).size
theorem Pt.val (h:Pt I C1 σ a w S) {t:Nat} (hc:isClo (look σ.s t)=true):RC S w (look σ.s t) (a.tmps.getD t undef):=by
 obtain⟨hM,_,C,ρ,κ,_,_,_,hl,hok⟩:=h
 exact RV.closed (@OK.slots I _ _ _ _ _ _ _ hok t) hc
theorem Pt.valv (h:Pt I C1 σ a w S) {t:Nat}{v:Value} (hc:look σ.s t=.v v):a.tmps.getD t undef=v:=by
 obtain⟨hM,_,C,ρ,κ,_,_,_,hl,hok⟩:=h
 have:=@OK.slots I _ _ _ _ _ _ _ hok t
 rw[show σ.f.s t=.v v from hc] at this
 exact inv_v this
theorem Pt.jump (h:Pt I C1 σ a w S) {w':World} (D:Nat→Prop) (hsz:w.heap.size≤w'.heap.size) (hw:∀b,b<w.heap.size→¬D b→w'.heap[b]? = w.heap[b]?) (hD:∀b,D b→C1.w0.heap.size≤b∧S b)
  (ho:w'.os=w.os∧w'.output=w.output) {S':Nat→Prop} (hS:∀b,S' b→b<w'.heap.size∧(S b∨w.heap.size≤b)) (h0:∀b,C1.S0 b→S' b) (s':List (Nat×AV))
  (hs:∀p,p∈s'→(p.2=look σ.s p.1∧flat p.2=true)∨RC S' w' p.2 (a.tmps.getD p.1 undef)):Pt (keepE S' w') C1 ⟨s',σ.h⟩ a w' S':=by
 have hb:=h.base
 have hz:=h.size
 obtain⟨hM,hr,C,ρ,κ,hw0,hS0,hmu,hl,hok⟩:=h
 have hno:∀b,S b→∀n,(σ.f.h n).isSome→ρ n≠some b:=fun b hb n hn hx=>by
  obtain⟨b',hb'⟩:=Option.isSome_iff_exists.1 hn
  exact @OK.noS I _ _ _ _ _ _ _ hok _ _ hb' (hr _ (hlook_mem2 hb')).2 _ hx hb
 obtain ⟨h1,h2⟩:=OK.jump I (keepE S' w') hl hM hok D hsz hw (fun b hd=>⟨(hD b hd).1,hno b (hD b hd).2⟩) ho (S':=S') (fun b hb=>(hS b hb).1) h0 (fun b h=>by
   rcases(hS b h).2 with h|h
   · exact hb b h
   · exact .inr (Nat.le_trans hz h)) (fun b h n hn hx=>by
   rcases(hS b h).2 with h|h
   · exact hno b h n hn hx
   · have:=hok.hok.lt hn hx;omega) keepE_env hr s' hs
 exact⟨hM,hr,_,ρ,κ,rfl,rfl,fun _ h=>h,h2,h1⟩
theorem Pt.set (h:Pt I C1 σ a w S) (s':List (Nat×AV)) (hs:∀p,p∈s'→(p.2=look σ.s p.1∧flat p.2=true)∨RC S w p.2 (a.tmps.getD p.1 undef)):Pt (keepE S w) C1 ⟨s',σ.h⟩ a w S:=
 h.jump (fun _=>False) (Nat.le_refl _) (fun _ _ _=>rfl) (fun _ h=>h.elim) ⟨rfl,rfl⟩ (fun b hb=>⟨h.dom b hb,.inl hb⟩) h.sub s' hs
theorem Pt.put (h:Pt I C1 σ a w S) {d:Nat} (hd:d<C1.nt) (u:Value):Pt I C1 ⟨(d,.v u)::σ.s,σ.h⟩ (a.put (some d) u) w S:=by
 obtain⟨hM,hr,C,ρ,κ,hw0,hS0,hmu,hl,hok⟩:=h
 refine⟨hM,hr,C,ρ,κ,hw0,hS0,hmu,hl,?_⟩
 exact @OK.put1 I _ _ _ _ _ _ _ hok d (by rw[hl.nt];exact hd) u
variable {nt:Nat}{dr:Nat→Array Oper→Option (List Nat)}{Q:Exit→Act→World→Prop}
structure Past (S:Nat→Prop) (w:World) (S':Nat→Prop) (w':World):Prop where
 sub:∀b,S b→S' b
 old:∀b,S b→w'.heap[b]? = w.heap[b]?
 size:w.heap.size≤w'.heap.size
theorem Past.refl (S:Nat→Prop) (w:World):Past S w S w:=⟨fun _ h=>h,fun _ _=>rfl,Nat.le_refl _⟩
theorem Past.trans {S' S'':Nat→Prop}{w' w'':World} (h:Past S w S' w') (h':Past S' w' S'' w''):Past S w S'' w'':=
 ⟨fun b hb=>h'.sub b (h.sub b hb),fun b hb=>(h'.old b (h.sub b hb)).trans (h.old b hb),Nat.le_trans h.size h'.size⟩
theorem Past.rc {S':Nat→Prop}{w':World} (h:Past S w S' w') {D:Nat→Prop} (hD:∀b,D b→S b) {x:AV}{v:Value} (hx:RC D w x v):RC D w' x v:=
 letI:Envs:=⟨[]⟩
 hx.mono (fun _ h=>h) fun b hb=>h.old b (hD b hb)
theorem Past.rcS {S':Nat→Prop}{w':World} (h:Past S w S' w') {x:AV}{v:Value} (hx:RC S w x v):RC S' w' x v:=
 letI:Envs:=⟨[]⟩
 hx.mono h.sub fun b hb=>h.old b hb
theorem Pt.later {C:Ctx}{ρ:Name→Option Nat}{κ:Name→Nat}{S':Nat→Prop}{a':Act}{w':World} (hw0:C.w0=w) (hS0:C.S0=S) (hno:∀b,S b→b<w.heap.size∧¬C.Mut b) (hok:@OK I C τ.f a' w' S' ρ κ):Past S w S' w':=by
 refine⟨fun b hb=>@OK.S0 I _ _ _ _ _ _ _ hok b (by rw[hS0];exact hb),fun b hb=>?_,?_⟩
 ·rw[←hw0]
  exact @OK.old I _ _ _ _ _ _ _ hok b (by rw[hw0];exact(hno b hb).1) (hno b hb).2
 ·rw[←hw0]
  exact @OK.size I _ _ _ _ _ _ _ hok
theorem Pt.go (hp:Pt I C1 σ a w S) (hdr:DrawOK P dr) (hnt:C1.nt=nt) (n:Nat) (c:ACode) {X:Prop}{E:AExit→St→Prop} (hτ:∀p,p∈τ.h→flatB p.2∧p.2.fz=false)
  (hv:∀C:Ctx,C.nt=nt→@wpcN I P C dr n c (fun σ'=>LeL σ' τ∧X) E σ) (hE:∀i σ,¬E (.exit i) σ) (hR:∀C a w,Later C1 C→@GoodL I C (E .ret) a w→Q .ret a w)
  (hN:∀a' w' S',Past S w S' w'→Pt I C1 τ a' w' S'→X→At P nt dr (dropS n c) Q a' w'):At P nt dr c Q a w:=by
 have hp':=hp
 obtain⟨hM,hr,C,ρ,κ,hw0,hS0,hmu,hl,hok⟩:=hp
 have hCnt:C.nt=nt:=hl.nt.trans hnt
 have hno:∀b,S b→b<w.heap.size∧¬C.Mut b:=fun b hb=>⟨hp'.dom b hb,fun hm=>by
   obtain⟨n,hn,hx⟩:=hmu b hm
   obtain⟨b',hb'⟩:=Option.isSome_iff_exists.1 hn
   exact @OK.noS I _ _ _ _ _ _ _ hok _ _ hb' (hr _ (hlook_mem2 hb')).2 _ hx hb⟩
 refine @At.upto P nt dr Q I C hdr hCnt _ E (fun i a w hg=>?_) (fun a w hg=>hR C a w hl hg) n c σ a w S ρ κ hok (hv C hCnt) fun a' w' hg=>?_
 ·obtain⟨σ',_,_,_,h,_⟩:=hg
  exact(hE i σ' h).elim
 ·obtain⟨σ',S',ρ',κ',⟨hle,hX⟩,hok'⟩:=hg
  have hok2:=@OK.le I _ _ _ _ _ _ _ _ hok' hle
  exact hN a' w' S' (Pt.later hw0 hS0 hno hok2) (Pt.of_ok hM hτ hl hok2) hX
theorem At.regionX [Envs] {P:Program}{C:Ctx}{a:Act}{w:World}{S:Nat→Prop}{ρ:Name→Option Nat}{κ:Name→Nat}{nt:Nat}{dr:Nat→Array Oper→Option (List Nat)}{Q:Exit→Act→World→Prop}{pre post:List AOper}{o:AOper}{out:List Nat}{σ:St} (hok:OK C σ.f a w S ρ κ) (hnt:C.nt=nt) (hg:o.guard=none)
  (hv:vc P (fun σ1=>∀(a:Act) (w:World) (S:Nat→Prop) (ρ:Name→Option Nat) (κ:Name→Nat) (op:Oper) (ops:Array Oper),OK C σ1.f a w S ρ κ→cOper P nt ops op=some o.bare→op.wp P a w (fun a w=>∃I':Envs,@RestOK I' P nt post Q a w) Q) pre σ) :
  At P nt dr (.region (pre++o::post) out []) Q a w:=by
 intro c hc hzc
 cases c
 case region id ops draw =>
  simp only[cCode,ACode.bare] at hc
  split at hc
  ·rename_i fl' hdraw
   cases ho:cOps P nt ops ops.toList with
   |none=>rw[ho] at hc;cases hc
   | some l =>
    rw[ho] at hc
    simp only[Option.map_some,Option.some.injEq,ACode.region.injEq,true_and] at hc
    obtain⟨hl,hfl⟩:=hc
    subst hl;subst hfl
    cases draw with
    | true =>
     have hd:dr nt ops=some []:=by simpa using hdraw
     simp[zB,hd] at hzc
    | false =>
     obtain⟨g1,g2⟩:=cOps_spec ho
     have hs:∀(j:Nat) (ao:AOper),(pre++o::post)[j]? = some ao→∃op,ops[j]? = some op∧cOper P nt ops op=some ao.bare:=fun j ao hj=>by
      obtain⟨op,q1,q2⟩:=g2 j ao hj
      exact⟨op,by simpa using q1,q2⟩
     refine wp_region ?_
     have hlen:ops.size=pre.length+(post.length+1):=by
      have:ops.size=(pre++o::post).length:=by simpa using g1
      rw[this];simp
     rw[List.range_eq_range',hlen]
     refine region_pre (C:=C) (K:=_) (e:=pre.length) (fun σ1 a w S ρ κ hK hok1=>?_) pre 0 (by omega) (fun j ao hj=>?_) σ a w S ρ κ hv hok
     ·obtain⟨op,h1,h2⟩:=hs pre.length o (by simp)
      obtain⟨_,_,_,h4⟩:=cOper_spec h2
      have hg2:op.guard=none:=by
       rcases h4 with⟨h,_⟩|⟨j,want,t,_,h,_⟩
       ·exact h
       ·rw[hg] at h;cases h
      rw[List.range'_succ,wpOps_cons]
      unfold wpOp
      rw[h1]
      have:Region.wanted op (yielded ops a.tmps)=true:=by simp[Region.wanted,hg2]
      simp only[this,if_true]
      refine .inl (Oper.wp_mono (fun a' w' hr=>?_) (hK a w S ρ κ op ops hok1 h2))
      obtain⟨I',C',σ',S',ρ',κ',K',e1,e2,e3,e4⟩:=hr
      letI:=I'
      subst e1
      have:=region_pre (C:=C') (P:=P) (ops:=ops) (Q:=Q) (K:=K') (e:=pre.length+1+post.length) (m:=0) (fun σ2 a2 w2 S2 ρ2 κ2 hk hok2=>by
        simp only[List.range'_zero]
        exact e4 a2 w2 ⟨σ2,S2,ρ2,κ2,hk,hok2⟩) post (pre.length+1) rfl (fun j ao hj=>by
        obtain ⟨op',q1,q2⟩:=hs (pre.length+1+j) ao (by
          rw[List.getElem?_append_right (by omega),show pre.length+1+j-pre.length=j+1 by omega]
          simpa using hj)
        exact⟨op',q1,q2⟩) σ' a' w' S' ρ' κ' e3 e2
      simpa using this
     ·obtain⟨op',q1,q2⟩:=hs j ao (by
        have:j<pre.length:=by
          rcases Nat.lt_or_ge j pre.length with h|h
          · exact h
          · simp[List.getElem?_eq_none h] at hj
        rw[List.getElem?_append_left this];exact hj)
      exact⟨op',by simpa using q1,by rw[hnt];exact q2⟩
  ·cases hc
 all_goals(simp only[cCode,ACode.bare] at hc;first|(cases hc;done)|(split at hc<;>simp at hc)|(simp at hc))
theorem Pt.call (hp:Pt I C1 σ a w S) (hnt:C1.nt=nt) {pre post:List AOper}{f:FuncId}{ts:List Nat}{vs:List Value}{bor:List Nat}{d:Nat}{out:List Nat}{y:ACode} (hb:HasBody P f) (hd:d<nt)
  (hτ:∀p,p∈τ.h→flatB p.2∧p.2.fz=false) (hv:@vc I P (fun σ'=>LeL σ' τ) pre σ) (hl:ts.length=vs.length) (hts:∀i,i<ts.length→look τ.s (ts.getD i 0)=.v (vs.getD i undef))
  (h : ∀a' w' S',Past S w S' w'→Pt I C1 τ a' w' S'→Calls P f vs.toArray w' fun e w''=>∃u,e=.returned u∧∃I'' s'' S'',Pt I'' C1 ⟨s'',τ.h⟩ a' w'' S''∧∃τ':St,@vc I'' P (fun σ'=>LeL σ' τ') post ⟨(d,.v u)::s'',τ.h⟩∧(∀p,p∈τ'.h→flatB p.2∧p.2.fz=false)∧
    ∀a3 w3 S3,Past S'' w'' S3 w3→Pt I'' C1 τ' a3 w3 S3→At P nt dr y Q a3 w3) :
  At P nt dr (.seq (.region (pre++⟨some d,.call (.func f) (ts.map .tmp) bor,none⟩::post) out []) y) Q a w:=by
 have hp':=hp
 obtain⟨hM,hr,C,ρ,κ,hw0,hS0,hmu,hla,hok⟩:=hp
 have hCnt:C.nt=nt:=hla.nt.trans hnt
 have hno:∀b,S b→b<w.heap.size∧¬C.Mut b:=fun b hb=>⟨hp'.dom b hb,fun hm=>by
   obtain⟨n,hn,hx⟩:=hmu b hm
   obtain⟨b',hb'⟩:=Option.isSome_iff_exists.1 hn
   exact @OK.noS I _ _ _ _ _ _ _ hok _ _ hb' (hr _ (hlook_mem2 hb')).2 _ hx hb⟩
 refine At.seq (@At.regionX I P C a w S ρ κ nt dr _ pre post _ out σ hok hCnt rfl ?_)
 refine @vc_mono I P (fun σ'=>LeL σ' τ) _ (fun σ1 hle1=>?_) _ _ hv
 intro a' w' S' ρ' κ' op ops hokx hcop
 have hok2:=@OK.le I _ _ _ _ _ _ _ _ hokx hle1
 have hpast:=Pt.later hw0 hS0 hno hok2
 have hpt:Pt I C1 τ a' w' S':=Pt.of_ok hM hτ hla hok2
 refine @op_call I P C a' w' S' ρ' κ' ops τ.f op _ f (ts.map .tmp) bor (by rw[hCnt];exact hcop) rfl hok2 hb _ _ ?_
 have hargs:((ts.map Operand.tmp).map a'.eval).toArray=vs.toArray:=by
  congr 1
  refine List.ext_getElem (by simp[hl]) fun i h1 h2=>?_
  have hi:i<ts.length:=by simpa using h1
  have:=hpt.valv (hts i hi)
  have e1:ts.getD i 0=ts[i]:=by simp[hi]
  have e2:vs.getD i undef=vs[i]:=by simp[h2]
  rw[e1,e2] at this
  simp only[List.getElem_map]
  exact this
 rw[hargs]
 refine(h a' w' S' hpast hpt).mono ?_
 rintro e w'' ⟨u,rfl,I'',s'',S'',hpt2,τ',hv2,hτ',hrest⟩
 have hp3:=hpt2.put (d:=d) (by rw[hnt];exact hd) u
 have hdom3:=hp3.dom
 obtain⟨hM3,hr3,C3,ρ3,κ3,hw3,hS3,hmu3,hla3,hok3⟩:=hp3
 have hCnt3:C3.nt=nt:=hla3.nt.trans hnt
 have hno3:∀b,S'' b→b<w''.heap.size∧¬C3.Mut b:=fun b hb=>⟨hdom3 b hb,fun hm=>by
   obtain⟨n,hn,hx⟩:=hmu3 b hm
   obtain⟨b',hb'⟩:=Option.isSome_iff_exists.1 hn
   exact @OK.noS I'' _ _ _ _ _ _ _ hok3 _ _ hb' (hr3 _ (hlook_mem2 hb')).2 _ hx hb⟩
 refine⟨u,rfl,I'',C3,⟨(d,.v u)::s'',τ.h⟩,S'',ρ3,κ3,fun σ'=>LeL σ' τ',hCnt3,hok3,hv2,fun a3 w3 hg=>?_⟩
 obtain⟨S3,ρ4,κ4,hok4⟩:=@GoodL.le I'' _ _ _ _ hg
 exact hrest a3 w3 S3 (Pt.later hw3 hS3 hno3 hok4) (Pt.of_ok hM3 hτ' hla3 hok4)
end
section
variable [Envs] {P:Program}{C:Ctx}{a:Act}{w:World}{S:Nat→Prop}{ρ:Name→Option Nat}{κ:Name→Nat}
end
section
variable {P:Program}
theorem Own.rc {S:Nat→Prop}{w:World}{x:Option Nat}{c k:Nat}{rows:List (List AV)}{v:Value} (h:Own S w x c k rows v):RC (fun b=>x=some b) w (.sl k rows) v:=by
 letI:Envs:=⟨[]⟩
 obtain⟨_,base,cap,rfl,h1,h2,h3,_⟩:=h.loc k rows false rfl
 obtain⟨hrk,hblk⟩:=h.blk
 rcases hblk with⟨hn,hnil⟩|⟨y,cs,T,fr,g1,g2,g3,_,_,g5,g6,g7⟩
 ·subst hnil
  refine .sl k [] base cap 0 0 (fun _=>undef) (by simp) (by simp) (by simp) (by simp) (by simp) ⟨by omega,h2⟩
 ·refine .sl k rows base cap y 0 (fun i=>cs.getD i undef) (fun hne=>?_) (fun i j hi hj=>?_) (fun i j hi hj=>(g7 i j hi hj).1) (fun i j hi hj=>?_) hrk ⟨by omega,h2⟩
  ·obtain⟨z,hz,hbase⟩:=h3 (List.length_pos_iff.2 hne)
   have g1':x=some y:=g1
   have hz':x=some z:=hz
   rw[g1'] at hz'
   obtain rfl:=Option.some.inj hz'
   exact⟨by rw[hbase];simp,g1'⟩
  ·have hlt:i*k+j<cs.size:=by
    have:i*k+k≤rows.length*k:=by rw[←Nat.succ_mul];exact Nat.mul_le_mul_right k hi
    omega
   simp[World.cell?,g2,hlt]
  ·have hm:rows.getD i []∈rows:=by
    rw[List.getD_eq_getElem?_getD,List.getElem?_eq_getElem hi];exact List.getElem_mem _
   exact RC.mono (S:=fun _=>False) (w:=w) (fun _ h=>h.elim) (fun _ h=>h.elim) (((g7 i j hi hj).2).flat (flatL_getD (h.fl _ hm)))
theorem rc_graft {w:World}{D0 D:Nat→Prop}{ss:List Value}{xs:List AV}{v:Value} (h0:RC D0 w (.sl 1 (ss.map fun s=>[AV.v s])) v) (hl:xs.length=ss.length) (hr:∀j,j<ss.length→RC D w (xs.getD j .junk) (ss.getD j undef)) :
  RC (fun b=>D0 b∨D b) w (.sl 1 (xs.map fun x=>[x])) v:=by
 letI:Envs:=⟨[]⟩
 generalize hL:(ss.map fun s=>[AV.v s])=L at h0
 cases h0 with
 | sl _ _ base cap x off ys hb hc ho hrr hk hcap =>
  subst hL
  have e:(ss.map fun s=>[AV.v s]).length=(xs.map fun x=>[x]).length:=by simp[hl]
  have hlen:(ss.map fun s=>[AV.v s]).length=ss.length:=by simp
  have hlen2:(xs.map fun x=>[x]).length=ss.length:=by simp[hl]
  rw[e]
  refine .sl 1 _ base cap x off ys (fun hne=>?_) (fun i j hi hj=>hc i j (by rw[hlen];rw[hlen2] at hi;exact hi) hj) (fun i j hi hj=>ho i j (by rw[hlen];rw[hlen2] at hi;exact hi) hj) (fun i j hi hj=>?_) (fun i hi=>?_) (by rw[←e];exact hcap)
  ·have:=hb (fun h=>hne (List.length_eq_zero_iff.1 (by rw[hlen2,←hlen,h];rfl)))
   exact⟨this.1,.inl this.2⟩
  ·obtain rfl:j=0:=by omega
   have hi':i<ss.length:=by rw[hlen2] at hi;exact hi
   have h1:=hrr i 0 (by rw[hlen];exact hi') (by omega)
   have e1:((ss.map fun s=>[AV.v s]).getD i []).getD 0 .junk=.v ss[i]:=by simp[hi']
   rw[e1] at h1
   have e3:ys (i*1+0)=ss[i]:=inv_v (ρ:=fun _=>none) (κ:=fun _=>0) (h:=fun _=>none) (.clo h1)
   rw[e3]
   have hx:i<xs.length:=by omega
   have e2:((xs.map fun x=>[x]).getD i []).getD 0 .junk=xs.getD i .junk:=by simp[hx]
   rw[e2]
   have:=hr i hi'
   have e4:ss.getD i undef=ss[i]:=by simp[hi']
   rw[e4] at this
   exact this.mono (fun _ h=>.inr h) fun _ _=>rfl
  ·have:i<xs.length:=by rw[hlen2] at hi;omega
   simp[this]
structure Mem where
 x0:Option Nat
 ss:List Value
 xs:Nat→Option Nat
 cs:Nat→Nat
def Mem.D (m:Mem) (b:Nat):Prop:=m.x0=some b∨∃i,i<m.ss.length∧m.xs i=some b
structure Dk (w:World) (ls:List (List (List AV))) (v:Value) (m:Mem):Prop where
 root:RC (fun b=>m.x0=some b) w (.sl 1 (m.ss.map fun s=>[AV.v s])) v
 rows:OwnL (fun b=>m.x0=some b) w 1 ls m.ss m.xs m.cs
 lt:∀b,m.D b→b<w.heap.size
theorem Dk.same {w w':World}{ls:List (List (List AV))}{v:Value}{m:Mem} (h:Dk w ls v m) (hs:w.heap.size≤w'.heap.size) (hw:∀b,m.D b→w'.heap[b]? = w.heap[b]?):Dk w' ls v m:=
 letI:Envs:=⟨[]⟩
 ⟨h.root.mono (fun _ h=>h) fun b hb=>hw b (.inl hb),h.rows.mono (fun i b hi hb=>(h.rows.row i hi).no hb) fun i b hi hb=>hw b (.inr ⟨i,hi,hb⟩),fun b hb=>Nat.lt_of_lt_of_le (h.lt b hb) hs⟩
theorem Dk.rd {w:World}{ls:List (List (List AV))}{v:Value}{m:Mem} (h:Dk w ls v m):RC m.D w (.sl 1 (ls.map fun r=>[.sl 1 r])) v:=by
 letI:Envs:=⟨[]⟩
 have hl:=h.rows.len
 have:=rc_graft (D:=fun b=>∃i,i<m.ss.length∧m.xs i=some b) (xs:=ls.map fun r=>AV.sl 1 r) h.root (by simp[hl]) fun j hj=>by
  have hlj:j<ls.length:=by omega
  have e:(ls.map fun r=>AV.sl 1 r).getD j .junk=.sl 1 (ls.getD j []):=by simp[hlj]
  rw[e]
  exact(h.rows.row j hj).rc.mono (fun b hb=>⟨j,hj,hb⟩) fun _ _=>rfl
 rw[List.map_map] at this
 exact this.mono (fun _ h=>h) fun _ _=>rfl
theorem Dk.nil (w:World):Dk w [] (.slice none 0 0) ⟨none,[],fun _=>none,fun _=>0⟩:=
 ⟨.sl 1 [] none 0 0 0 (fun _=>undef) (by simp) (by simp) (by simp) (by simp) (by simp) ⟨by simp,by decide⟩,⟨rfl,by simp,by simp⟩,fun b hb=>by
   rcases hb with h|⟨i,hi,_⟩
   · cases h
   · simp at hi⟩
def NewDk (w w':World) (ls:List (List (List AV))) (v:Value):Prop:=∃m,Dk w' ls v m∧∀b,m.D b→w.heap.size≤b
variable {I:Envs}{C1:Ctx}{σ τ:St}{a:Act}{w:World}{S:Nat→Prop}
variable {nt:Nat}{dr:Nat→Array Oper→Option (List Nat)}{Q:Exit→Act→World→Prop}
theorem Pt.grow (h:Pt I C1 σ a w S) {w':World} (hg:Grew w w') {D:Nat→Prop} (hD:∀b,D b→w.heap.size≤b∧b<w'.heap.size) (s':List (Nat×AV)) (hs:∀p,p∈s'→p.2=look σ.s p.1∧(flat p.2=true∨isClo p.2=true)) :
  Pt (keepE (fun b=>S b∨D b) w') C1 ⟨s',σ.h⟩ a w' (fun b=>S b∨D b):=
 h.jump (fun _=>False) hg.size (fun b hb _=>hg.old b hb) (fun _ h=>h.elim) hg.out (fun b hb=>hb.elim (fun hb=>⟨Nat.lt_of_lt_of_le (h.dom b hb) hg.size,.inl hb⟩) fun hb=>⟨(hD b hb).2,.inr (hD b hb).1⟩) (fun b hb=>.inl (h.sub b hb)) s' fun p hp=>by
  obtain⟨e,hf|hc⟩:=hs p hp
  ·exact .inl ⟨e,hf⟩
  ·right
   rw[e] at hc⊢
   exact RC.mono (fun b hb=>.inl hb) (fun b hb=>hg.old b (h.dom b hb)) (h.val hc)
theorem Pt.marked (h:Pt I C1 σ a w S) {w':World}{D:Nat→Prop} (hsz:w.heap.size≤w'.heap.size) (hw:∀b,b<w.heap.size→¬D b→w'.heap[b]? = w.heap[b]?) (ho:w'.os=w.os∧w'.output=w.output)
  (hD:∀b,D b→C1.w0.heap.size≤b∧S b) {K:Nat→Prop} (hK:∀b,K b→S b) (h0:∀b,C1.S0 b→K b) (s':List (Nat×AV)) (hs:∀p,p∈s'→p.2=look σ.s p.1∧flat p.2=true):Pt (keepE K w') C1 ⟨s',σ.h⟩ a w' K:=
 h.jump D hsz hw hD ho (fun b hb=>⟨Nat.lt_of_lt_of_le (h.dom b (hK b hb)) hsz,.inl (hK b hb)⟩) h0 s' fun p hp=>.inl (hs p hp)
theorem Pt.le (h:Pt I C1 σ a w S) (hle:LeL σ τ) (hτ:∀p,p∈τ.h→flatB p.2∧p.2.fz=false):Pt I C1 τ a w S:=by
 obtain⟨hM,hr,C,ρ,κ,hw0,hS0,hmu,hl,hok⟩:=h
 exact Pt.of_ok hM hτ hl (@OK.le I _ _ _ _ _ _ _ _ hok hle)
theorem Pt.ren (h:Pt I C1 σ a w S) {n m:Name} (hn:n≠m) (hf:freshL m σ=true) (hτ:∀p,p∈(renL n m σ).h→flatB p.2∧p.2.fz=false):Pt I C1 (renL n m σ) a w S:=by
 obtain⟨hM,hr,C,ρ,κ,hw0,hS0,hmu,hl,hok⟩:=h
 obtain⟨ρ',κ',h'⟩:=@OK.renL I C a w S ρ κ σ n m hn hf hok
 exact Pt.of_ok hM hτ hl h'
theorem Pt.out (h:Pt I C1 σ a w S):Grew C1.w0 w:=by
 obtain⟨hM,hrr,C,ρ,κ,hw0,hS0,hmu,hl,hok⟩:=h
 exact @OK.grew I _ _ _ _ _ _ _ (@OK.back I _ _ _ _ _ _ _ hl _ hok) fun b _=>hM b
theorem Pt.bury (h:Pt I C1 σ a w S) {n:Name}{k:Nat}{rows:List (List AV)} (hb:hlook σ.h n=some (.arr k rows false)) (hfl:∀r,r∈rows→flatL r=true) {t:Nat} (ht:look σ.s t=.agg [.loc n 0 rows.length]) (hkh:∀p,p∈(killL n σ).h→flatB p.2∧p.2.fz=false) :
  ∃ s x c,(∃b m c',s=Value.slice b m c')∧Own (fun _=>False) w x c k rows s∧(∀b,x=some b→C1.w0.heap.size≤b∧b<w.heap.size∧¬S b)∧
   ∀ s':List (Nat×AV),(∀p,p∈s'→(p.2=look (killL n σ).s p.1∧flat p.2=true)∨(p.2=look σ.s p.1∧isClo p.2=true)∨p=(t,.agg [.v s]))→
    Pt (keepE (fun b=>S b∨x=some b) w) C1 ⟨s',(killL n σ).h⟩ a w (fun b=>S b∨x=some b):=by
 have hbase:=h.base
 have hdom:=h.dom
 have hsub:=h.sub
 have hval:∀{t:Nat},isClo (look σ.s t)=true→RC S w (look σ.s t) (a.tmps.getD t undef):=fun hc=>h.val hc
 obtain⟨hM,hr,C,ρ,κ,hw0,hS0,hmu,hl,hok⟩:=h
 have hs:=@OK.slots I _ _ _ _ _ _ _ hok t
 rw[show σ.f.s t=_ from ht] at hs
 obtain⟨vs,hv,hsz,hrs⟩:=inv_agg hs
 have hr0:RV S w ρ κ σ.f.h (.loc n 0 rows.length) (vs.getD 0 undef):=hrs 0 (by simp)
 have hown:=@OK.own I C a w S ρ κ σ.f hok n k rows hb hfl _ hr0
 have hnS:∀b,ρ n=some b→¬S b:=fun b hb'=>hown.no hb'
 have hlt:∀b,ρ n=some b→b<w.heap.size:=fun b hb'=>hok.hok.lt (n:=n) (by rw[show σ.f.h n=_ from hb];rfl) hb'
 have hge:∀b,ρ n=some b→C1.w0.heap.size≤b:=fun b hb'=>by
  rcases(@OK.back I _ _ _ _ _ _ _ hl _ hok).mine n b (by rw[show σ.f.h n=_ from hb];rfl) hb' with h|h
  ·exact h
  ·exact(hM b h).elim
 obtain ⟨b0,c0,hsl⟩:∃b0 c0,vs.getD 0 undef=.slice b0 rows.length c0:=by
  obtain⟨_,b1,c1,e,_⟩:=hown.loc k rows false rfl
  exact⟨b1,c1,e⟩
 refine⟨vs.getD 0 undef,ρ n,κ n,⟨_,_,_,hsl⟩,hown.mono (fun _ _ h=>h) (fun _ _=>rfl),fun b hb'=>⟨hge b hb',hlt b hb',hnS b hb'⟩,fun s' hs'=>?_⟩
 have hkok:@OK I C (killL n σ).f a w S ρ κ:=by rw[killL_f];exact hok.kill n
 have hkn:∀m,((killL n σ).f.h m).isSome→m≠n∧(σ.f.h m).isSome:=fun m hm=>by
  rw[killL_f] at hm
  simp only[killF] at hm
  split at hm
  ·cases hm
  ·rename_i hne
   refine⟨hne,?_⟩
   cases hx:σ.f.h m with
   |none=>rw[hx] at hm;cases hm
   |some b=>rfl
 obtain ⟨h1,h2⟩:=OK.jump I (keepE (fun b=>S b∨ρ n=some b) w) hl hM hkok (fun _=>False) (Nat.le_refl _) (fun _ _ _=>rfl) (fun _ h=>h.elim) ⟨rfl,rfl⟩ (S':=fun b=>S b∨ρ n=some b) (fun b hb'=>hb'.elim (hdom b) (hlt b)) (fun b hb'=>.inl (hsub b hb'))
  (fun b hb'=>hb'.elim (hbase b) fun h=>.inr (hge b h)) (fun b hb' m hm hx=>by
    obtain⟨g1,g2⟩:=hkn m hm
    rcases hb' with h|h
    · obtain⟨b',hb''⟩:=Option.isSome_iff_exists.1 g2
      exact @OK.noS I _ _ _ _ _ _ _ hok _ _ hb'' (hr _ (hlook_mem2 hb'')).2 _ hx h
    · exact g1 (hok.hok.inj m n b g2 (by rw[show σ.f.h n=_ from hb];rfl) hx h)) keepE_env hkh s' (fun p hp=>by
    rcases hs' p hp with h|⟨e,hc⟩|rfl
    · exact .inl h
    · right
      rw[e] at hc⊢
      exact RC.mono (fun b hb=>.inl hb) (fun _ _=>rfl) (hval hc)
    · right
      show RC _ w (.agg [.v (vs.getD 0 undef)]) (a.tmps.getD t undef)
      rw[hv]
      refine .agg _ _ hsz fun j hj=>?_
      obtain rfl:j=0:=by simpa using hj
      exact .v _)
 exact⟨hM,hkh,_,ρ,κ,rfl,rfl,fun _ h=>h,h2,h1⟩
theorem Pt.cond (h:Pt I C1 σ a w S) {t:Nat}{b:Bool}{x y:ACode} (hb:look σ.s t=.v (.bool b)) (hx:b=true→At P nt dr x Q a w) (hy:b=false→At P nt dr y Q a w):At P nt dr (.cond (.tmp t) x y) Q a w:=
 At.cond (t:=b) (by have:=h.valv hb;exact this) hx hy
end
section
section
variable [Envs]
variable {P:Program}{nt:Nat}{dr:Nat→Array Oper→Option (List Nat)}{Q:Exit→Act→World→Prop}{a:Act}{w:World}
def RgL (P:Program) (nt:Nat) (aops:List AOper) (Q:Exit→Act→World→Prop) (a:Act) (w:World):Prop:=
 ∀(ops:Array Oper) (L:List Nat),L.length=aops.length→(∀(j:Nat) (ao:AOper),aops[j]? = some ao→∃(i:Nat) (o:Oper),L[j]? = some i∧ops[i]? = some o∧cOper P nt ops o=some ao.bare)→wpOps P ops Q L a w
theorem RgL.nil (h:Q .normal a w):RgL P nt [] Q a w:=by
 intro ops L hl _
 have:L=[]:=by simpa using hl
 subst this;exact h
theorem RgL.fw {C:Ctx}{K:St→Prop}{post:List AOper} (hK:∀(σ:St) (a:Act) (w:World) (S:Nat→Prop) (ρ:Name→Option Nat) (κ:Name→Nat),K σ→OK C σ.f a w S ρ κ→RgL P C.nt post Q a w) :
  ∀(pre:List AOper) (σ:St) (a:Act) (w:World) (S:Nat→Prop) (ρ:Name→Option Nat) (κ:Name→Nat),vc P K pre σ→OK C σ.f a w S ρ κ→RgL P C.nt (pre++post) Q a w
 | [],σ,a,w,S,ρ,κ,hv,hok=>hK σ a w S ρ κ hv hok
 | ao::r,σ,a,w,S,ρ,κ,hv,hok=>by
  intro ops L hl hs
  cases L with
  |nil=>simp at hl
  |cons i L =>
  obtain⟨i',o,hi,ho,hc⟩:=hs 0 ao (by simp)
  obtain rfl:i=i':=by simpa using hi
  obtain⟨h1,h2,h3,h4⟩:=cOper_spec hc
  rw[wpOps_cons]
  have ih:∀(σ:St) (a:Act) (w:World) (S:Nat→Prop) (ρ:Name→Option Nat) (κ:Name→Nat),vc P K r σ→OK C σ.f a w S ρ κ→wpOps P ops Q L a w:=fun σ a w S ρ κ hv hok =>
   RgL.fw hK r σ a w S ρ κ hv hok ops L (by simpa using hl) (fun j ao' hj=>by
     obtain⟨i',o',g1,g2,g3⟩:=hs (j+1) ao' (by simpa using hj)
     exact⟨i',o',by simpa using g1,g2,g3⟩)
  have go:stepA P ao.dst σ (vc P K r) ao.op→o.wp P a w (wpOps P ops Q L) Q:=fun hst =>
   Oper.wp_mono (fun a' w' ⟨σ',S',ρ',κ',hK,hok'⟩=>ih σ' a' w' S' ρ' κ' hK hok') (step_sound (P:=P) h1 hok h3 (by rw[h2];exact hst))
  unfold wpOp
  rw[ho]
  simp only[vc] at hv
  rcases h4 with⟨g1,g2⟩|⟨j,want,t,g1,g2,g3⟩
  ·rw[g2] at hv
   have:Region.wanted o (yielded ops a.tmps)=true:=by simp[Region.wanted,g1]
   simp only[this,if_true]
   exact .inl (go hv)
  ·rw[g2] at hv
   simp only at hv
   split at hv
   ·rename_i b hb
    have hw:=wanted_of hok g1 g3 hb
    simp only[hw]
    by_cases hbw:b=want
    ·simp only[hbw,beq_self_eq_true,if_true]
     exact .inl (go ((BrW_iff.1 hv).1 hbw))
    ·have:(b==want)=false:=by simpa using hbw
     simp only[this,Bool.false_eq_true,if_false]
     have hn:b = !want:=by cases b<;>cases want<;>simp_all
     refine ih _ _ _ S ρ κ ((BrW_iff.1 hv).2 hn) ?_
     have:=hok.put (x:=.v undef) (v:=undef) (.clo (.v _)) h3
     rw[h2] at this⊢
     simpa[St.f,look_put,undef] using this
   ·rename_i cs hb
    have hw:=wanted_un hok g1 g3 hb
    simp only[hw,Bool.false_eq_true,if_false]
    refine ih _ _ _ S ρ κ hv ?_
    have:=hok.put (x:=.v undef) (v:=undef) (.clo (.v _)) h3
    rw[h2] at this⊢
    simpa[St.f,look_put,undef] using this
   ·exact hv.elim
theorem RgL.op {o:AOper}{r:List AOper} (hg:o.guard=none) (h:∀(op:Oper) (ops:Array Oper),cOper P nt ops op=some o.bare→op.wp P a w (RgL P nt r Q) Q):RgL P nt (o::r) Q a w:=by
 intro ops L hl hs
 cases L with
 |nil=>simp at hl
 |cons i L =>
 obtain⟨i',op,hi,ho,hc⟩:=hs 0 o (by simp)
 obtain rfl:i=i':=by simpa using hi
 obtain⟨_,_,_,h4⟩:=cOper_spec hc
 have hg2:op.guard=none:=by
  rcases h4 with⟨h,_⟩|⟨j,want,t,_,h,_⟩
  ·exact h
  ·rw[hg] at h;cases h
 rw[wpOps_cons]
 unfold wpOp
 rw[ho]
 have:Region.wanted op (yielded ops a.tmps)=true:=by simp[Region.wanted,hg2]
 simp only[this,if_true]
 exact .inl (Oper.wp_mono (fun a' w' hr=>hr ops L (by simpa using hl) fun j ao' hj=>by
   obtain⟨i',o',g1,g2,g3⟩:=hs (j+1) ao' (by simpa using hj)
   exact⟨i',o',by simpa using g1,g2,g3⟩) (h op ops hc))
theorem At.rg {aops:List AOper}{out:List Nat} (h:RgL P nt aops Q a w):At P nt dr (.region aops out []) Q a w:=by
 intro c hc hzc
 cases c
 case region id ops draw =>
  simp only[cCode,ACode.bare] at hc
  split at hc
  ·rename_i fl' hdraw
   cases ho:cOps P nt ops ops.toList with
   |none=>rw[ho] at hc;cases hc
   | some l =>
    rw[ho] at hc
    simp only[Option.map_some,Option.some.injEq,ACode.region.injEq,true_and] at hc
    obtain⟨hl,hfl⟩:=hc
    subst hl;subst hfl
    cases draw with
    | true =>
     have hd:dr nt ops=some []:=by simpa using hdraw
     simp[zB,hd] at hzc
    | false =>
     obtain⟨g1,g2⟩:=cOps_spec ho
     have hlen:ops.size=aops.length:=by simpa using g1
     refine wp_region (h ops _ (by rw[List.length_range,hlen]) fun j ao hj=>?_)
     obtain⟨o,q1,q2⟩:=g2 j ao hj
     have hjl:j<ops.size:=by
      rw[hlen]
      rcases Nat.lt_or_ge j aops.length with h|h
      ·exact h
      ·simp[List.getElem?_eq_none h] at hj
     exact⟨j,o,by simp[hjl],by simpa using q1,q2⟩
  ·cases hc
 all_goals(simp only[cCode,ACode.bare] at hc;first|(cases hc;done)|(split at hc<;>simp at hc)|(simp at hc))
end
variable {P:Program}{nt:Nat}{dr:Nat→Array Oper→Option (List Nat)}{Q:Exit→Act→World→Prop}{a:Act}{w:World}
variable {I:Envs}{C1:Ctx}{σ τ:St}{S:Nat→Prop}
theorem Pt.drew (h:Pt I C1 σ a w S):Pt I C1 σ a {w with drawn:=w.drawn+1} S:=by
 obtain⟨hM,hr,C,ρ,κ,hw0,hS0,hmu,hl,hok⟩:=h
 exact Pt.of_ok hM hr hl (@OK.ext I C σ.f a w {w with drawn:=w.drawn+1} S ρ κ hok (Ext.of_heap rfl rfl rfl))
theorem Past.drew:Past S w S {w with drawn:=w.drawn+1}:=⟨fun _ h=>h,fun _ _=>rfl,Nat.le_refl _⟩
theorem Pt.rg (hp:Pt I C1 σ a w S) (hnt:C1.nt=nt) {pre post:List AOper} (hτ:∀p,p∈τ.h→flatB p.2∧p.2.fz=false) (hv:@vc I P (fun σ'=>LeL σ' τ) pre σ)
  (h:∀a' w' S',Past S w S' w'→Pt I C1 τ a' w' S'→RgL P nt post Q a' w'):RgL P nt (pre++post) Q a w:=by
 have hp':=hp
 obtain⟨hM,hr,C,ρ,κ,hw0,hS0,hmu,hla,hok⟩:=hp
 have hCnt:C.nt=nt:=hla.nt.trans hnt
 have hno:∀b,S b→b<w.heap.size∧¬C.Mut b:=fun b hb=>⟨hp'.dom b hb,fun hm=>by
   obtain⟨n,hn,hx⟩:=hmu b hm
   obtain⟨b',hb'⟩:=Option.isSome_iff_exists.1 hn
   exact @OK.noS I _ _ _ _ _ _ _ hok _ _ hb' (hr _ (hlook_mem2 hb')).2 _ hx hb⟩
 subst hCnt
 refine @RgL.fw I P Q C (fun σ'=>LeL σ' τ) post (fun σ' a' w' S' ρ' κ' hle hok'=>?_) pre σ a w S ρ κ hv hok
 have hok2:=@OK.le I _ _ _ _ _ _ _ _ hok' hle
 exact h a' w' S' (Pt.later hw0 hS0 hno hok2) (Pt.of_ok hM hτ hla hok2)
theorem Pt.rgcall (hp:Pt I C1 σ a w S) (hnt:C1.nt=nt) {f:FuncId}{ts:List Nat}{ys:List AV}{bor:List Nat}{d:Nat}{r:List AOper} (hb:HasBody P f) (hl:ts.length=ys.length) (hts:∀i,i<ts.length→look σ.s (ts.getD i 0)=ys.getD i .junk) (hcl:∀i,i<ts.length→isClo (ys.getD i .junk)=true)
  (h:∀vs:Array Value,vs.size=ys.length→(∀j,j<ys.length→RC S w (ys.getD j .junk) (vs.getD j undef))→Calls P f vs w fun e w'=>∃u,e=.returned u∧RgL P nt r Q (a.put (some d) u) w') :
  RgL P nt (⟨some d,.call (.func f) (ts.map .tmp) bor,none⟩::r) Q a w:=by
 have hval:∀i,i<ts.length→RC S w (ys.getD i .junk) (a.tmps.getD (ts.getD i 0) undef):=fun i hi=>by
  have:=hp.val (t:=ts.getD i 0) (by rw[hts i hi];exact hcl i hi)
  rw[hts i hi] at this
  exact this
 obtain⟨hM,hr,C,ρ,κ,hw0,hS0,hmu,hla,hok⟩:=hp
 have hCnt:C.nt=nt:=hla.nt.trans hnt
 refine RgL.op rfl fun op ops hcop=>?_
 refine @op_call I P C a w S ρ κ ops σ.f op _ f (ts.map .tmp) bor (by rw[hCnt];exact hcop) rfl hok hb _ _ ?_
 refine h _ (by simp[hl]) fun j hj=>?_
 have hj':j<ts.length:=by omega
 have e2:((ts.map Operand.tmp).map a.eval).toArray.getD j undef=a.tmps.getD (ts.getD j 0) undef:=by
  simp[hj',Act.eval]
 rw[e2]
 exact hval j hj'
end
section
variable {P:Program}{nt:Nat}{Q:Exit→Act→World→Prop}{a:Act}{w:World}{S:Nat→Prop}
theorem Pt.calls [I:Envs] {dr:Nat→Array Oper→Option (List Nat)}{f:FuncId}{fn:Func}{body:Code}{ac:ACode} (hf:P.funcs[f]? = some fn) (hb:fn.body=some body) (hc:cCode P fn.ntmps dr body=some ac.bare) (hz:zB fn.ntmps dr body=true) {args:List AV} (hna:args.length≤fn.ntmps)
  {vs:Array Value} (hS:∀b,S b→b<w.heap.size) (he:Env S w) (hvs:vs.size=args.length) (hargs:∀j,j<args.length→RC S w (args.getD j .junk) (vs.getD j undef)) {R:Ending→World→Prop}
  (h : ∀(C1:Ctx) (a:Act),C1.nt=fn.ntmps→C1.w0=w→C1.S0=S→Pt I C1 ⟨ini 0 args,[]⟩ a w S→
    At P fn.ntmps dr ac (fun e a' w'=>(e=.ret∨e=.normal)∧a'.defers=[]∧∃v,(results fn a'.tmps).run P w'=.ok v w'∧R (.returned v) w') a w):Calls P f vs w R:=
 calls_at hf hb hc hz hna hS he hvs hargs (fun _=>False) fun a hok=>h _ a rfl rfl rfl (Pt.of_ok (fun _ h=>h) (fun p hp=>by cases hp) (Later.refl _) hok)
variable {I:Envs}{C1:Ctx}{σ τ:St}
theorem NewDk.later {w1 w2 w3:World}{ls:List (List (List AV))}{v:Value}{m:Mem} (hd:Dk w2 ls v m) (hn:∀b,m.D b→w1.heap.size≤b) {S S':Nat→Prop} (hS:∀b,m.D b→S b) (hp:Past S w2 S' w3):NewDk w1 w3 ls v:=
 ⟨m,hd.same hp.size fun b hb=>hp.old b (hS b hb),hn⟩
theorem Pt.fin {dr:Nat→Array Oper→Option (List Nat)} (hp:Pt I C1 σ a w S) (hdr:@DrawOK I P dr) (hnt:C1.nt=nt) {c:ACode}{E:AExit→St→Prop} (hv:∀C:Ctx,C.nt=nt→@wpc I P C dr c (fun _=>False) E σ) (hE:∀i σ,¬E (.exit i) σ)
  (hR:∀C a w,Later C1 C→@GoodL I C (E .ret) a w→Q .ret a w):At P nt dr c Q a w:=by
 obtain⟨hM,hr,C,ρ,κ,hw0,hS0,hmu,hl,hok⟩:=hp
 have hCnt:C.nt=nt:=hl.nt.trans hnt
 exact At.fw hdr hok hCnt (hv C hCnt) (fun a w hg=>hg.no.elim) (fun i a w hg=>by
   obtain⟨σ',_,_,_,h,_⟩:=hg
   exact(hE i σ' h).elim) (fun a w hg=>hR C a w hl hg)
theorem Past.grow {w':World}{D:Nat→Prop} (hg:Grew w w') (hS:∀b,S b→b<w.heap.size):Past S w (fun b=>S b∨D b) w':=⟨fun _ h=>.inl h,fun b hb=>hg.old b (hS b hb),hg.size⟩
theorem Past.mark {S1 K:Nat→Prop}{w1 w':World}{D:Nat→Prop} (h:Past S1 w1 S w) (hdom:∀b,S b→b<w.heap.size) (hsz:w.heap.size≤w'.heap.size) (hw:∀b,b<w.heap.size→¬D b→w'.heap[b]? = w.heap[b]?) (hD:∀b,D b→¬S1 b) (hK:∀b,S1 b→K b):Past S1 w1 K w':=
 ⟨hK,fun b hb=>(hw b (hdom b (h.sub b hb)) fun hd=>hD b hd hb).trans (h.old b hb),Nat.le_trans h.size hsz⟩
theorem Dk.past {ls:List (List (List AV))}{v:Value}{m:Mem}{S':Nat→Prop}{w':World} (hd:Dk w ls v m) (hS:∀b,m.D b→S b) (hp:Past S w S' w'):Dk w' ls v m:=hd.same hp.size fun b hb=>hp.old b (hS b hb)
theorem us2 {us:Array Value} (h:us.size=2) {v c:Value} (h0:us.getD 0 undef=v) (h1:us.getD 1 undef=c):us=#[v,c]:=by
 obtain⟨l⟩:=us
 match l,h with
 | [x,y],_ =>
  have e1:x=v:=by simpa using h0
  have e2:y=c:=by simpa using h1
  rw[e1,e2]
theorem us1 {us:Array Value} (h:us.size=1) {v:Value} (h0:us.getD 0 undef=v):us=#[v]:=by
 obtain⟨l⟩:=us
 match l,h with
 | [x],_ =>
  have e1:x=v:=by simpa using h0
  rw[e1]
theorem rc_v {v u:Value} (h:RC S w (.v v) u):u=v:=by cases h;rfl
end
section
theorem At.closing {P:Program}{nt:Nat}{dr:Nat→Array Oper→Option (List Nat)}{n:Nat}{x:ACode}{Q:Exit→Act→World→Prop}{a:Act}{w:World} (h:At P nt dr x Q a w):At P nt dr (.closing n x) Q a w:=h
section
variable [Envs]
variable {P:Program}{nt:Nat}{Q:Exit→Act→World→Prop}
end
section
variable [I:Envs]
variable {P:Program}{nt:Nat}{Q:Exit→Act→World→Prop}{a:Act}{w:World}
end
variable {P:Program}{I:Envs}{C1:Ctx}{σ τ:St}{S:Nat→Prop}{a:Act}{w:World}
theorem Pt.mv (h:Pt I C1 σ a w S) {d s:Nat} (hd:d<C1.nt):Pt I C1 ⟨(d,look σ.s s)::σ.s,σ.h⟩ (a.put (some d) (a.tmps.getD s undef)) w S:=by
 obtain⟨hM,hr,C,ρ,κ,hw0,hS0,hmu,hl,hok⟩:=h
 refine⟨hM,hr,C,ρ,κ,hw0,hS0,hmu,hl,?_⟩
 have:=@OK.put I C σ.f a w S ρ κ hok (look σ.s s) (a.tmps.getD s undef) (@OK.slots I _ _ _ _ _ _ _ hok s) (some d) (fun d' hd'=>by
   obtain rfl:=Option.some.inj hd'
   rw[hl.nt];exact hd)
 have e:(⟨(d,look σ.s s)::σ.s,σ.h⟩:St).f=⟨upd σ.f.s (some d) (look σ.s s),σ.f.h⟩:=by
  simp[St.f,look,upd,eq_comm]
 rw[e]
 exact this
end
section

end
section
section
variable [Envs]
variable {P:Program}{nt:Nat}{Q:Exit→Act→World→Prop}
end
section
variable [I:Envs]
variable {P:Program}{nt:Nat}{Q:Exit→Act→World→Prop}{a:Act}{w:World}
end
variable {P:Program}{nt:Nat}{Q:Exit→Act→World→Prop}{a:Act}{w:World}
variable {I:Envs}{C1:Ctx}{σ:St}{S:Nat→Prop}
end
section
section
variable [Envs]
variable {P:Program}
theorem Grew.alloc (w:World) (o:Obj):Grew w (w.alloc o):=
 ⟨by show w.heap.size≤(w.heap.push o).size;simp,fun b hb=>by show(w.heap.push o)[b]? = _;simp[Array.getElem?_push,Nat.ne_of_lt hb],rfl,rfl⟩
open Go.RowKit in
theorem Grew.of_below {w w':World} (h:Below w.heap.size w w'):Grew w w':=⟨h.size,h.block,h.os,h.output⟩
end
end
section
section
variable [Envs]
variable {P:Program}
open Go.RowKit
theorem dl_getD {l:List (List AV)}{i r:Nat} (hi:i<l.length):(l.take i++l.drop (i+1)).getD r []=l.getD (if r<i then r else r+1) []:=by
 have hl:(l.take i).length=i:=by simp;omega
 by_cases h:r<i
 ·rw[if_pos h,List.getD_eq_getElem?_getD,List.getElem?_append_left (by omega),List.getElem?_take,if_pos h,List.getD_eq_getElem?_getD]
 ·rw[if_neg h,List.getD_eq_getElem?_getD,List.getElem?_append_right (by omega),hl,List.getElem?_drop,List.getD_eq_getElem?_getD,show i+1+(r-i)=r+1 by omega]
theorem cell_at {w:World}{x j:Nat}{cs:Array Value}{T:TypeId}{fr:Nat×Nat} (h:w.heap[x]? = some (.cells cs T fr)) (hj:j<cs.size):w.cell? ⟨x,j,none⟩=some (cs.getD j undef):=by
 simp[World.cell?,h,hj]
theorem sz_setCells (b:Nat):∀(vs:List Value) (o:Nat) (w:World),(w.setCells b o vs).heap.size=w.heap.size
 | [],_,_=>rfl
 | v::r,o,w=>by
  rw[World.setCells,sz_setCells b r]
  simp[World.setCell]
theorem Fn.of_del {f:FuncId}{k i:Nat}{l:List (List AV)} (hb:HasBody P f) (hi:i<l.length)
  (h : ∀(w:World) (b cap:Nat) (cs:List Value),cs.length=l.length*k→(∀j u,cs[j]? = some u→w.cell? ⟨b,j,none⟩=some u)→(∀u,u∈cs→u.oneCell'=true)→(∀j,j<cs.length→w.frozen? ⟨b,j,none⟩=false)→l.length≤cap→cap<2 ^ 63→
    Calls P f #[.slice (some ⟨b,0,none⟩) l.length cap,.int .i64 (i:Nat),.int .i64 (i+1:Nat)] w fun e w'=>e=.returned (.slice (some ⟨b,0,none⟩) (l.length-1) cap)∧∃q zs,zs.length=k∧w'=((w.drewN q).setCells b (i*k) (cs.drop ((i+1)*k))).setCells b ((l.length-1)*k) zs) :
  Fn P f [.arr k l false] [.loc (.b 0) 0 l.length,.v (.int .i64 (i:Nat)),.v (.int .i64 (i+1:Nat))] (.sl k (l.take i++l.drop (i+1))) [none]:=by
 refine⟨hb,fun S w ρ κ vs hok hfz hvs hargs=>?_⟩
 have hH:Hn ([Blk.arr k l false].map some) (.b 0)=some (.arr k l false):=rfl
 obtain⟨hrow,hblk⟩:=hok.blk (.b 0) _ hH
 have h0:=inv_loc (hargs 0 (by show 0<3;omega)) k l false hH
 have h1:vs.getD 1 undef=.int .i64 (i:Nat):=inv_v (hargs 1 (by show 1<3;omega))
 have h2:vs.getD 2 undef=.int .i64 (i+1:Nat):=inv_v (hargs 2 (by show 2<3;omega))
 obtain⟨_,base,cap,hv0,hc1,hc2,hbase,_⟩:=h0
 have hpos:0<l.length:=by omega
 rcases hblk with⟨_,rfl⟩|⟨x,cs,T,fr,hx,hh,hth,hnS,_,hsz,hlk,hcell⟩
 ·simp at hi
 obtain⟨x',hx',rfl⟩:=hbase hpos
 obtain rfl:x=x':=by rw[hx] at hx';exact Option.some.inj hx'
 rw[Nat.zero_mul] at hv0
 have hnx:¬S x:=hnS rfl
 have hxl:x<w.heap.size:=by
  rcases Nat.lt_or_ge x w.heap.size with h|h
  ·exact h
  ·rw[Array.getElem?_eq_none h] at hh;cases hh
 have evs:vs=#[.slice (some ⟨x,0,none⟩) l.length cap,.int .i64 (i:Nat),.int .i64 (i+1:Nat)]:=by
  have hs3:vs.size=3:=hvs
  apply Array.ext (by simpa using hs3)
  intro j hj hj2
  have hj3:j<3:=by simpa using hj2
  have hj4:j=0∨j=1∨j=2:=by omega
  rcases hj4 with rfl|rfl|rfl
  ·simpa[Array.getD,hs3] using hv0
  ·simpa[Array.getD,hs3] using h1
  ·simpa[Array.getD,hs3] using h2
 subst evs
 let cl:=cs.toList.take (l.length*k)
 have hcl:cl.length=l.length*k:=by simp[cl];omega
 have hcg:∀j,j<l.length*k→cl[j]? = some (cs.getD j undef):=fun j hj=>by
  have:j<cs.size:=by omega
  simp[cl,hj,this]
 have hone:∀j,j<l.length*k→(cs.getD j undef).oneCell'=true:=fun j hj=>by
  have hk0:0<k:=Nat.pos_of_ne_zero fun e=>by subst e;omega
  have:=(hcell (j/k) (j%k) ((Nat.div_lt_iff_lt_mul hk0).2 hj) (Nat.mod_lt _ hk0)).1
  rwa [Nat.mul_comm,Nat.div_add_mod] at this
 refine(h w x cap cl hcl (fun j u hu=>?_) (fun u hu=>?_) (fun j hj=>?_) hc1 hc2).mono ?_
 ·have hj:j<l.length*k:=by rw[←hcl];exact(List.getElem?_eq_some_iff.1 hu).1
  rw[hcg j hj] at hu
  obtain rfl:=Option.some.inj hu
  exact cell_at hh (by omega)
 ·obtain⟨j,hj,rfl⟩:=List.mem_iff_getElem.1 hu
  have hj2:j<l.length*k:=by rw[←hcl];exact hj
  have:=hcg j hj2
  rw[List.getElem?_eq_getElem hj] at this
  rw[Option.some.inj this]
  exact hone j hj2
 ·have hj2:j<cs.size:=by omega
  have:=hth j hj2
  simp only[World.frozen?,hh]
  simp only[Bool.and_eq_false_iff,decide_eq_false_iff_not]
  omega
 rintro e w' ⟨rfl,q,zs,hzs,rfl⟩
 generalize hW1:(w.drewN q).setCells x (i*k) (cl.drop ((i+1)*k))=W1
 have hs1:W1.heap.size=w.heap.size:=by rw[←hW1,sz_setCells];rfl
 have hs2:(W1.setCells x ((l.length-1)*k) zs).heap.size=w.heap.size:=by rw[sz_setCells,hs1]
 have hoth:∀b,b<w.heap.size→b≠x→(W1.setCells x ((l.length-1)*k) zs).heap[b]? = w.heap[b]?:=fun b hb hne=>by
  rw[World.heap_setCells_other _ _ _ _ (by rw[hs1];exact hb) hne,←hW1,World.heap_setCells_other _ _ _ _ (by exact hb) hne]
  rfl
 have hSo:∀b,S b→(W1.setCells x ((l.length-1)*k) zs).heap[b]? = w.heap[b]?:=fun b hb=>hoth b (hok.dom b hb) (fun e=>hnx (e ▸ hb))
 have hin:∀r j,r<l.length-1→j<k→(W1.setCells x ((l.length-1)*k) zs).cell? ⟨x,r*k+j,none⟩=some (cs.getD ((if r<i then r else r+1)*k+j) undef):=fun r j hr hj=>by
  have g1:(r+1)*k≤(l.length-1)*k:=Nat.mul_le_mul_right _ hr
  have g2:(l.length-1+1)*k=l.length*k:=by rw[Nat.sub_add_cancel hpos]
  rw[Nat.succ_mul] at g1 g2
  rw[World.cell?_setCells_out x _ _ _ _ (fun _ _=>Or.inl (by show r*k+j<_;omega)),←hW1]
  by_cases hri:r<i
  ·have g3:(r+1)*k≤i*k:=Nat.mul_le_mul_right _ hri
   rw[Nat.succ_mul] at g3
   rw[if_pos hri,World.cell?_setCells_out x _ _ _ _ (fun _ _=>Or.inl (by show r*k+j<_;omega))]
   exact cell_at hh (by omega)
  ·have g3:i*k≤r*k:=Nat.mul_le_mul_right _ (by omega)
   have hdl:(cl.drop ((i+1)*k)).length=l.length*k-(i+1)*k:=by simp[hcl]
   have g4:(i+1)*k=i*k+k:=Nat.succ_mul ..
   have hjj:r*k+j-i*k<(cl.drop ((i+1)*k)).length:=by rw[hdl];omega
   have:=World.cell?_setCells_in x (cl.drop ((i+1)*k)) (i*k) (w.drewN q) (fun t ht=>by
     have g5:(i+1)*k≤l.length*k:=Nat.mul_le_mul_right _ hi
     show(w.cell? _).isSome=true
     rw[cell_at hh (by rw[hdl] at ht;omega)];rfl) (r*k+j-i*k) hjj
   rw[show i*k+(r*k+j-i*k)=r*k+j by omega] at this
   rw[if_neg hri,this]
   have e1:(cl.drop ((i+1)*k))[r*k+j-i*k]? = some (cs.getD ((r+1)*k+j) undef):=by
    rw[List.getElem?_drop,show(i+1)*k+(r*k+j-i*k)=(r+1)*k+j by rw[Nat.succ_mul,Nat.succ_mul];omega]
    refine hcg _ ?_
    rw[Nat.succ_mul];omega
   rw[List.getElem?_eq_getElem hjj] at e1
   exact e1
 have hlen:(l.take i++l.drop (i+1)).length=l.length-1:=by simp;omega
 have hos:(W1.setCells x ((l.length-1)*k) zs).os=w.os:=by rw[World.os_setCells,←hW1,World.os_setCells];rfl
 have hou:(W1.setCells x ((l.length-1)*k) zs).output=w.output:=by rw[World.output_setCells,←hW1,World.output_setCells];rfl
 clear hW1 hs1
 generalize W1.setCells x ((l.length-1)*k) zs=W2 at *
 refine⟨_,fun b=>S b∨b=x,fun _=>none,fun _=>0,rfl,⟨⟨fun n b hb=>?_,fun n m y hn=>?_,fun b hb=>?_,hok.env.mono (fun _ h=>.inl h) hSo⟩,by rw[hs2];exact Nat.le_refl _,fun b hb hnm=>hoth b hb fun e=>hnm ⟨0,by simp,by rw[e];exact hx⟩,fun _ h=>.inl h,fun b hb=>hb.elim .inl fun e=>.inr (.inr ⟨0,by simp,by rw[e];exact hx⟩),fun j y hj=>?_,⟨hos,hou⟩,fun j b' hj hb'=>?_⟩,.clo ?_⟩
 ·cases n with
  |b j=>cases j<;>simp[Hn] at hb
  |t s j=>simp[Hn] at hb
 ·cases n with
  |b j=>cases j<;>simp[Hn] at hn
  |t s j=>simp[Hn] at hn
 ·rw[hs2]
  rcases hb with h|rfl
  ·exact hok.dom b h
  ·exact hxl
 ·cases j<;>simp at hj
 ·obtain rfl:j=0:=by simpa using hj
  simp at hb'
 ·rw[←hlen]
  refine .sl k _ _ cap x 0 (fun t=>(W2.cell? ⟨x,t,none⟩).getD undef) (fun _=>⟨rfl,.inr rfl⟩) (fun r j hr hj=>?_) (fun r j hr hj=>?_) (fun r j hr hj=>?_) (fun r hr=>?_) ⟨by omega,hc2⟩
  ·rw[hlen] at hr
   rw[Nat.zero_add,hin r j hr hj];rfl
  ·rw[hlen] at hr
   simp only[hin r j hr hj,Option.getD_some]
   exact(hcell _ j (by split<;>omega) hj).1
  ·rw[hlen] at hr
   simp only[hin r j hr hj,Option.getD_some]
   rw[dl_getD hi]
   exact(hcell _ j (by split<;>omega) hj).2.mono (fun _ h=>.inl h) hSo
  ·rw[hlen] at hr
   rw[dl_getD hi]
   exact hrow _ (by split<;>omega)
theorem Fn.of_newrow {f:FuncId}{args:List AV}{k:Nat}{l:List (List AV)} (hb:HasBody P f) (hc:∀y,y∈args→isClo y=true) (hrow:∀i,i<l.length→(l.getD i []).length=k)
  (h : ∀(S:Nat→Prop) (w:World) (vs:Array Value),(∀b,S b→b<w.heap.size)→Env S w→vs.size=args.length→(∀j,j<args.length→RC S w (args.getD j .junk) (vs.getD j undef))→
    Calls P f vs w fun e w'=>∃(x cap:Nat) (cs:Array Value) (T:TypeId),e=.returned (.slice (some ⟨x,0,none⟩) l.length cap)∧Grew w w'∧w.heap.size≤x∧w'.heap[x]? = some (.cells cs T (0,0))∧l.length≤cap∧cap<2 ^ 63∧cap*k≤cs.size∧
      ∀i j,i<l.length→j<k→(cs.getD (i*k+j) undef).oneCell'=true∧RC S w ((l.getD i []).getD j .junk) (cs.getD (i*k+j) undef)):Fn P f [] args (.loc (.b 0) 0 l.length) [some (.arr k l false)]:=by
 refine⟨hb,fun S w ρ κ vs hok _ hvs hargs=>(h S w vs hok.dom hok.env hvs fun j hj=>(hargs j hj).closed (hc _ ?_)).mono ?_⟩
 ·rw[List.getD_eq_getElem?_getD,List.getElem?_eq_getElem hj];exact List.getElem_mem _
 ·rintro e w' ⟨x,cap,cs,T,rfl,hg,hx,hh,h1,h2,h3,hcell⟩
  have hxl:x<w'.heap.size:=by
   rcases Nat.lt_or_ge x w'.heap.size with h|h
   ·exact h
   ·rw[Array.getElem?_eq_none h] at hh;cases hh
  have hSo:∀b,S b→w'.heap[b]? = w.heap[b]?:=fun b hb=>hg.old b (hok.dom b hb)
  have hnx:¬S x:=fun hs=>by have:=hok.dom x hs;omega
  have h4:l.length*k≤cs.size:=Nat.le_trans (Nat.mul_le_mul_right _ h1) h3
  have hHn:∀n b,Hn [some (Blk.arr k l false)] n=some b→n=.b 0∧b=.arr k l false:=fun n b hb=>by
   cases n with
   | b j =>
    cases j with
    |zero=>simp[Hn] at hb;exact⟨rfl,hb.symm⟩
    |succ j=>simp[Hn] at hb
   |t s j=>simp[Hn] at hb
  refine⟨_,S,fun n=>if n=.b 0 then some x else none,fun _=>cs.size,rfl,⟨⟨fun n b hb=>?_,fun n m y hn hm _ _=>?_,fun b hb=>Nat.lt_of_lt_of_le (hok.dom b hb) hg.size,(hg.env hok.dom hok.env).mono (fun _ h=>h) fun _ _=>rfl⟩,hg.size,fun b hb _=>hg.old b hb,fun _ h=>h,fun b hb=>.inl hb,fun j y hj hy=>?_,hg.out,fun j b' hj=>(by simp at hj)⟩,.loc _ _ _ _ ?_⟩
  ·obtain⟨rfl,rfl⟩:=hHn n b hb
   exact⟨hrow,.inr ⟨x,cs,T,(0,0),by simp,hh,fun j hj hq=>by have:=hq.2;simp at this,fun _=>hnx,by simp,rfl,h4,fun i j hi hj=>⟨(hcell i j hi hj).1,(hcell i j hi hj).2.mono (fun _ h=>h) hSo⟩⟩⟩
  ·obtain⟨b,hb⟩:=Option.isSome_iff_exists.1 hn
   obtain⟨b',hb'⟩:=Option.isSome_iff_exists.1 hm
   rw[(hHn n b hb).1,(hHn m b' hb').1]
  ·cases j with
   | zero =>
    simp at hy
    exact .inl (by omega)
   |succ j=>simp at hj
  ·intro k' l' z hl
   obtain⟨_,e⟩:=hHn _ _ hl
   obtain⟨rfl,rfl,rfl⟩:=Blk.arr.inj e
   exact⟨by omega,_,cap,rfl,h1,h2,fun _=>⟨x,by simp,by simp⟩,fun _ _=>.inr ⟨x,by simp,rfl,h3⟩⟩
end
end
end Go.Vs
