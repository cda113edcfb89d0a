/- Walks begun anew, at values that are known of old. -/
import Derived.Test.YtmiiohemehacjaaGreatDoorVtZ
set_option linter.all false
set_option maxHeartbeats 8000000
namespace Go.Vs
variable {P:Program}
open Classical in
@[reducible] noncomputable def keepE (S : Nat -> Prop) (w : World) : Envs := ⟨((List.range w.heap.size).filter λb => decide (S b)).map λb => (b, λo => o = w.heap[b]?)⟩
theorem aBc {S:Nat->Prop}{w:World}{b:Nat} (H:S b) (F:b<w.heap.size):(b,λo=>o=w.heap[b]?)∈@envs (keepE S w):=by
 grind [envs]
theorem aBd {S:Nat->Prop}{w:World}:@Env (keepE S w) S w:=by
 intro p F;have H:p∈List.map _ _:=F
 all_goals grind
theorem bO {S S':Nat->Prop}{w w':World} (H:∀b,S b->b<w.heap.size) (I:@Env (keepE S w) S' w') {x:AV}{v:Value} (h:RC S w x v):RC S' w' x v:=
 letI:=keepE S w
 h.mono (λb F=>(I _ (aBc F (H b F))).1) λb F=>(I _ (aBc F (H b F))).2
structure tF (w w':World):Prop where
 size:w.heap.size<=w'.heap.size
 old:∀b,b<w.heap.size->w'.heap[b]? = w.heap[b]?
 out:w'.os=w.os∧w'.output=w.output
theorem tF.refl (w:World):tF w w:=⟨Nat.le_refl _,λ_ _=>rfl,rfl,rfl⟩
theorem tF.trans {w w' F:World} (h:tF w w') (h':tF w' F):tF w F:=
 ⟨Nat.le_trans h.size h'.size,λb H=>(h'.old b (Nat.lt_of_lt_of_le H h.size)).trans (h.old b H),h'.out.1.trans h.out.1,h'.out.2.trans h.out.2⟩
theorem tF.rc {w w':World} (h:tF w w') {S:Nat->Prop} (F:∀b,S b->b<w.heap.size) {x:AV}{v:Value} (I:RC S w x v):RC S w' x v:=
 letI:Envs:=⟨[]⟩
 I.mono (λ_ h=>h) λb H=>h.old b (F b H)
theorem tF.env [Envs] {w w':World} (h:tF w w') {S:Nat->Prop} (F:∀b,S b->b<w.heap.size) (I:Env S w):Env S w':=
 I.mono (λ_ h=>h) λb H=>h.old b (F b H)
theorem OK.grew [Envs] {C:Ctx}{σ:FSt}{a:Act}{w:World}{S:Nat->Prop}{ρ:Name->Option Nat}{κ:Name->Nat} (F:OK C σ a w S ρ κ) (I:∀b,b<C.w0.heap.size->¬C.Mut b):tF C.w0 w:=
 ⟨F.size,λb H=>F.old b H (I b H),F.out⟩
theorem Fn.of_calls [Envs] {f:FuncId}{args:List AV}{r:AV} (I:jL P f) (Y:∀x,x∈args->fO x=true) (hr:flat r=true)
  (h : ∀(S:Nat->Prop) (w:World) (vs:Array Value),(∀b,S b->b<w.heap.size)->Env S w->vs.size=args.length->(∀j,j<args.length->RC S w (args.getD j .junk) (vs.getD j undef))->
    Calls P f vs w λe w'=>∃v,e=.returned v∧tF w w'∧RC S w' r v):Fn P f [] args r []:=by
 refine⟨I,λS w ρ κ vs H _ O J=>(h S w vs H.dom H.env O λj L=>(J j L).closed (Y _ ?_)).mono ?_⟩
 .rw[List.getD_eq_getElem?_getD,List.getElem?_eq_getElem L];exact List.getElem_mem _
 .rintro e w' ⟨v,rfl,hg,hv⟩
  have F:∀n,Hn ([]:List (Option Blk)) n=none:=by
   intro n;cases n<;>simp[Hn]
  refine⟨v,S,λ_=>none,λ_=>0,rfl,⟨⟨λn b I=>(by rw[F] at I;cases I),λn m y U _ _ _=>(by rw[F] at U;cases U),λb I=>Nat.lt_of_lt_of_le (H.dom b I) hg.size,hg.env H.dom H.env⟩,hg.size,λb I _=>hg.old b I,λ_ h=>h,λ_ h=>.inl h,λj x L=>(by simp at L),hg.out,λj Z L=>(by simp at L)⟩,.clo hv⟩
theorem bW.has {f:FuncId}{fn:Func}{ac:aF} (h:bW P f fn ac):jL P f:=by
 obtain⟨H,h2,I⟩:=h;obtain⟨F,J,_⟩:=Option.bind_eq_some_iff.1 h2;exact⟨fn,F,H,J,by simpa using I⟩
def lG:Nat->aF->aF
 |0,c=>c
 |n+1,.seq _ y=>lG n y
 |_+1,c=>c
def aDp [Envs] (P:Program) (C:Ctx) (dr:Nat->Array Oper->Option (List Nat)):Nat->aF->(St->Prop)->(uC->St->Prop)->St->Prop
 |0,_,N,_,σ=>N σ
 |n+1,.seq x y,N,E,σ=>wpc P C dr x (aDp P C dr n y N E) E σ
 |_+1,_,_,_,_=>False
variable {nt:Nat}{dr:Nat->Array Oper->Option (List Nat)}{Q:Exit->Act->World->Prop}
theorem At.upto [Envs] {C:Ctx} (F:iF P dr) (I:C.nt=nt) {N:St->Prop}{E:uC->St->Prop} (O:∀i a w,bV C (E (.exit i)) a w->Q (.exit i) a w) (U:∀a w,bV C (E .ret) a w->Q .ret a w) :
  ∀(n:Nat) (c:aF) {σ:St}{a:Act}{w:World}{S:Nat->Prop}{ρ:Name->Option Nat}{κ:Name->Nat},OK C σ.f a w S ρ κ->aDp P C dr n c N E σ->(∀a w,bV C N a w->At P nt dr (lG n c) Q a w)->At P nt dr c Q a w
 |0,c,σ,a,w,S,ρ,κ,hok,hv,hN=>hN a w ⟨σ,S,ρ,κ,hv,hok⟩
 | n + 1,.seq x y,σ,a,w,S,ρ,κ,hok,hv,hN=>At.seq (At.fw F hok I hv (λa w H=>by
     obtain⟨σ',S',ρ',κ',L,J⟩:=H;exact At.upto F I O U n y J L hN) (λi a w H=>O i a w H) λa w H=>U a w H)
 |n+1,.skip,_,_,_,_,_,_,_,hv,_=>hv.elim
 |n+1,.region ..,_,_,_,_,_,_,_,hv,_=>hv.elim
 |n+1,.cond ..,_,_,_,_,_,_,_,hv,_=>hv.elim
 |n+1,.block ..,_,_,_,_,_,_,_,hv,_=>hv.elim
 |n+1,.loop ..,_,_,_,_,_,_,_,hv,_=>hv.elim
 |n+1,.exit ..,_,_,_,_,_,_,_,hv,_=>hv.elim
 |n+1,.ret,_,_,_,_,_,_,_,hv,_=>hv.elim
 |n+1,.closing ..,_,_,_,_,_,_,_,hv,_=>hv.elim
 |n+1,.naming ..,_,_,_,_,_,_,_,hv,_=>hv.elim
theorem iM {h:List (Name×Blk)}{n:Name}{b:Blk} (F:aB h n=some b):(n,b)∈h:=by
 induction h with
 |nil=>cases F
 | cons p r ih =>
  grind [aB]
theorem Later.refl (C:Ctx):Later C C:=⟨rfl,Nat.le_refl _,λ_ _ _=>rfl,λ_ h=>.inr h,λ_ h=>h,λ_ h=>.inl h,⟨rfl,rfl⟩,rfl,rfl,rfl⟩
attribute [go_sem] aDp
theorem OK.noS [Envs] {C:Ctx}{σ:FSt}{a:Act}{w:World}{S:Nat->Prop}{ρ:Name->Option Nat}{κ:Name->Nat} (I:OK C σ a w S ρ κ) {n:Name}{b:Blk} (Z:σ.h n=some b) (O:b.fz=false) {x:Nat} (J:ρ n=some x):¬S x:=by
 have L:=I.hok.blk n b Z;cases b with
 | var c z =>
  obtain⟨y,cs,T,fr,F,U,Y,H,_⟩:=L;rw[J] at F;obtain rfl:=Option.some.inj F;exact H O
 | arr k l z =>
  obtain⟨_,⟨F,_⟩|⟨y,cs,T,fr,F,U,Y,H,_⟩⟩:=L
  .rw[J] at F;cases F
  .rw[J] at F;obtain rfl:=Option.some.inj F;exact H O
theorem aH2 [Envs] {fn:Func}{I C:Ctx} (hl:Later I C) (Y:∀b,¬I.Mut b) {U:Nat->Prop}{t:Nat} (J:fn.results.toList=[.tmp t]) {a:Act}{w:World} (Z:bV C (fun σ'=>LeL σ' ⟨[(t,.v (.bool true))],[]⟩) a w) :
  a.defers=[]∧∃v,(results fn a.tmps).run P w=.ok v w∧∃O,Ending.returned v=.returned O∧tF I.w0 w∧RC U w (.v (.bool true)) O:=by
 obtain⟨S,ρ,κ,F⟩:=Z.le;refine⟨F.defers,?_⟩
 obtain ⟨x,v,hx,L,H⟩:=tL (P:=P) F (fn:=fn) (K:=λx=>x=.v (.bool true)) (by
   rw[J];show uE P _ _ [_]
   simp[uE,aDu,look,uZ])
 subst hx;refine⟨v,H,v,rfl,(F.back hl).grew λb _=>Y b,?_⟩;rw[bL L];exact .v _
end Go.Vs
