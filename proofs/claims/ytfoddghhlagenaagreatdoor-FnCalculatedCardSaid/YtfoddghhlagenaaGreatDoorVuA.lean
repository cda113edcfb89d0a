/- Walks begun anew, at values that are known of old. -/
import Derived.Test.YtfoddghhlagenaaGreatDoorVtZ
set_option linter.all false
set_option maxHeartbeats 8000000
namespace Go.Vs
variable {P:Program}
open Classical in
@[reducible] noncomputable def keepE (S : Nat -> Prop) (w : World) : Envs := ⟨((List.range w.heap.size).filter λb => decide (S b)).map λb => (b, λo => o = w.heap[b]?)⟩
theorem aCS {S:Nat->Prop}{w:World}{b:Nat} (hb:S b) (hlt:b<w.heap.size):(b,λo=>o=w.heap[b]?)∈@envs (keepE S w):=by
 grind [envs]
theorem uU {S:Nat->Prop}{w:World}:@Env (keepE S w) S w:=by
 intro p hp
 have hp':p∈List.map _ _:=hp
 all_goals grind
structure mP (w w':World):Prop where
 size:w.heap.size<=w'.heap.size
 old:∀b,b<w.heap.size->w'.heap[b]? = w.heap[b]?
 out:w'.os=w.os∧w'.output=w.output
theorem mP.refl (w:World):mP w w:=⟨Nat.le_refl _,λ_ _=>rfl,rfl,rfl⟩
theorem mP.trans {w w' w'':World} (h:mP w w') (h':mP w' w''):mP w w'':=
 ⟨Nat.le_trans h.size h'.size,λb hb=>(h'.old b (Nat.lt_of_lt_of_le hb h.size)).trans (h.old b hb),h'.out.1.trans h.out.1,h'.out.2.trans h.out.2⟩
theorem mP.rc {w w':World} (h:mP w w') {S:Nat->Prop} (hS:∀b,S b->b<w.heap.size) {x:AV}{v:Value} (hx:RC S w x v):RC S w' x v:=
 letI:Envs:=⟨[]⟩
 hx.mono (λ_ h=>h) λb hb=>h.old b (hS b hb)
theorem mP.env [Envs] {w w':World} (h:mP w w') {S:Nat->Prop} (hS:∀b,S b->b<w.heap.size) (he:Env S w):Env S w':=
 he.mono (λ_ h=>h) λb hb=>h.old b (hS b hb)
theorem OK.grew [Envs] {C:Ctx}{σ:FSt}{a:Act}{w:World}{S:Nat->Prop}{ρ:Name->Option Nat}{κ:Name->Nat} (hok:OK C σ a w S ρ κ) (hm:∀b,b<C.w0.heap.size->¬C.Mut b):mP C.w0 w:=
 ⟨hok.size,λb hb=>hok.old b hb (hm b hb),hok.out⟩
theorem iG.has {f:FuncId}{fn:Func}{ac:aD} (h:iG P f fn ac):lH P f:=by
 obtain⟨h1,h2,h3⟩:=h
 obtain⟨body,hb,_⟩:=Option.bind_eq_some_iff.1 h2
 exact⟨fn,body,h1,hb,by simpa using h3⟩
def aEo:Nat->aD->aD
 |0,c=>c
 |n+1,.seq _ y=>aEo n y
 |_+1,c=>c
def wpcN [Envs] (P:Program) (C:Ctx) (dr:Nat->Array Oper->Option (List Nat)):Nat->aD->(St->Prop)->(gP->St->Prop)->St->Prop
 |0,_,N,_,σ=>N σ
 |n+1,.seq x y,N,E,σ=>wpc P C dr x (wpcN P C dr n y N E) E σ
 |_+1,_,_,_,_=>False
variable {nt:Nat}{dr:Nat->Array Oper->Option (List Nat)}{Q:Exit->Act->World->Prop}
theorem At.upto [Envs] {C:Ctx} (hdr:iO P dr) (hnt:C.nt=nt) {N:St->Prop}{E:gP->St->Prop} (hE:∀i a w,bK C (E (.exit i)) a w->Q (.exit i) a w) (hR:∀a w,bK C (E .ret) a w->Q .ret a w) :
  ∀(n:Nat) (c:aD) {σ:St}{a:Act}{w:World}{S:Nat->Prop}{ρ:Name->Option Nat}{κ:Name->Nat},OK C σ.f a w S ρ κ->wpcN P C dr n c N E σ->(∀a w,bK C N a w->At P nt dr (aEo n c) Q a w)->At P nt dr c Q a w
 |0,c,σ,a,w,S,ρ,κ,hok,hv,hN=>hN a w ⟨σ,S,ρ,κ,hv,hok⟩
 | n + 1,.seq x y,σ,a,w,S,ρ,κ,hok,hv,hN=>At.seq (At.fw hdr hok hnt hv (λa w hg=>by
     obtain⟨σ',S',ρ',κ',hv',hok'⟩:=hg
     exact At.upto hdr hnt hE hR n y hok' hv' hN) (λi a w hg=>hE i a w hg) λa w hg=>hR a w hg)
 |n+1,.skip,_,_,_,_,_,_,_,hv,_=>hv.elim
 |n+1,.region ..,_,_,_,_,_,_,_,hv,_=>hv.elim
 |n+1,.cond ..,_,_,_,_,_,_,_,hv,_=>hv.elim
 |n+1,.block ..,_,_,_,_,_,_,_,hv,_=>hv.elim
 |n+1,.loop ..,_,_,_,_,_,_,_,hv,_=>hv.elim
 |n+1,.exit ..,_,_,_,_,_,_,_,hv,_=>hv.elim
 |n+1,.ret,_,_,_,_,_,_,_,hv,_=>hv.elim
 |n+1,.closing ..,_,_,_,_,_,_,_,hv,_=>hv.elim
 |n+1,.naming ..,_,_,_,_,_,_,_,hv,_=>hv.elim
theorem eX {h:List (Name×Blk)}{n:Name}{b:Blk} (hb:aA h n=some b):(n,b)∈h:=by
 induction h with
 |nil=>cases hb
 | cons p r ih =>
  grind [aA]
theorem Later.refl (C:Ctx):Later C C:=⟨rfl,Nat.le_refl _,λ_ _ _=>rfl,λ_ h=>.inr h,λ_ h=>h,λ_ h=>.inl h,⟨rfl,rfl⟩,rfl,rfl,rfl⟩
attribute [go_sem] wpcN
theorem OK.noS [Envs] {C:Ctx}{σ:FSt}{a:Act}{w:World}{S:Nat->Prop}{ρ:Name->Option Nat}{κ:Name->Nat} (hok:OK C σ a w S ρ κ) {n:Name}{b:Blk} (hb:σ.h n=some b) (hz:b.fz=false) {x:Nat} (hx:ρ n=some x):¬S x:=by
 have hk:=hok.hok.blk n b hb
 cases b with
 | var c z =>
  obtain⟨y,cs,T,fr,g1,g2,g3,g4,_⟩:=hk
  rw[hx] at g1
  obtain rfl:=Option.some.inj g1
  exact g4 hz
 | arr k l z =>
  obtain⟨_,⟨g1,_⟩|⟨y,cs,T,fr,g1,g2,g3,g4,_⟩⟩:=hk
  .rw[hx] at g1;cases g1
  .rw[hx] at g1
   obtain rfl:=Option.some.inj g1
   exact g4 hz
end Go.Vs
