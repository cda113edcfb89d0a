/- Walks begun anew, at values that are known of old. -/
import Derived.Test.YtkgeiaideklmoaaGreatVtZ
set_option linter.all false
set_option maxHeartbeats 8000000
namespace Go.Vs
variable {P:Program}
open Classical in
@[reducible] noncomputable def keepE (S : Nat → Prop) (w : World) : Envs := ⟨((List.range w.heap.size).filter fun b => decide (S b)).map fun b => (b, fun o => o = w.heap[b]?)⟩
theorem aCR {S:Nat→Prop}{w:World}{b:Nat} (G:S b) (F:b<w.heap.size):(b,fun o=>o=w.heap[b]?)∈@envs (keepE S w):=by
 show _∈List.map _ _
 refine List.mem_map.2 ⟨b,?_,rfl⟩;simp[G,F]
theorem tX {S:Nat→Prop}{w:World}:@Env (keepE S w) S w:=by
 intro p H;have F:p∈List.map _ _:=H;obtain⟨b,G,rfl⟩:=List.mem_map.1 F;have:S b:=by simpa using(List.mem_filter.1 G).2
 exact⟨this,rfl⟩
theorem dG {S S':Nat→Prop}{w w':World} (G:∀b,S b→b<w.heap.size) (H:@Env (keepE S w) S' w') {x:AV}{v:Value} (h:RC S w x v):RC S' w' x v:=
 letI:=keepE S w
 h.mono (fun b F=>(H _ (aCR F (G b F))).1) fun b F=>(H _ (aCR F (G b F))).2
theorem Fn.known [Envs] {f:FuncId}{hin:List Blk}{ys ys':List AV}{r:AV}{F:List (Option Blk)} (h:Fn P f hin ys r F) (M:ys'.length=ys.length)
  (L:∀j,j<ys.length→ys'.getD j .junk=ys.getD j .junk∨∃v,ys'.getD j .junk=.v v∧∀S w,Env S w→RC S w (ys.getD j .junk) v):Fn P f hin ys' r F:=
 ⟨h.1,fun S w ρ κ vs G H I O=>h.2 S w ρ κ vs G H (by rw[I,M]) fun j J=>by
   have:=O j (by omega);rcases L j J with e|⟨v,e,hv⟩
   · rw[e] at this;exact this
   · rw[e] at this;rw[bM this];exact .clo (hv S w G.env)⟩
structure mZ (w w':World):Prop where
 size:w.heap.size≤w'.heap.size
 old:∀b,b<w.heap.size→w'.heap[b]? = w.heap[b]?
 out:w'.os=w.os∧w'.output=w.output
theorem mZ.refl (w:World):mZ w w:=⟨Nat.le_refl _,fun _ _=>rfl,rfl,rfl⟩
theorem mZ.trans {w w' F:World} (h:mZ w w') (h':mZ w' F):mZ w F:=
 ⟨Nat.le_trans h.size h'.size,fun b G=>(h'.old b (Nat.lt_of_lt_of_le G h.size)).trans (h.old b G),h'.out.1.trans h.out.1,h'.out.2.trans h.out.2⟩
theorem mZ.rc {w w':World} (h:mZ w w') {S:Nat→Prop} (F:∀b,S b→b<w.heap.size) {x:AV}{v:Value} (H:RC S w x v):RC S w' x v:=
 letI:Envs:=⟨[]⟩
 H.mono (fun _ h=>h) fun b G=>h.old b (F b G)
theorem mZ.env [Envs] {w w':World} (h:mZ w w') {S:Nat→Prop} (F:∀b,S b→b<w.heap.size) (H:Env S w):Env S w':=
 H.mono (fun _ h=>h) fun b G=>h.old b (F b G)
theorem OK.grew [Envs] {C:Ctx}{σ:FSt}{a:Act}{w:World}{S:Nat→Prop}{ρ:Name→Option Nat}{κ:Name→Nat} (F:OK C σ a w S ρ κ) (H:∀b,b<C.w0.heap.size→¬C.Mut b):mZ C.w0 w:=
 ⟨F.size,fun b G=>F.old b G (H b G),F.out⟩
theorem Fn.of_calls [Envs] {f:FuncId}{args:List AV}{r:AV} (H:mW P f) (O:∀x,x∈args→dY x=true) (Y:flat r=true)
  (h : ∀(S:Nat→Prop) (w:World) (vs:Array Value),(∀b,S b→b<w.heap.size)→Env S w→vs.size=args.length→(∀j,j<args.length→RC S w (args.getD j .junk) (vs.getD j undef))→
    Calls P f vs w fun e w'=>∃v,e=.returned v∧mZ w w'∧RC S w' r v):Fn P f [] args r []:=by
 refine⟨H,fun S w ρ κ vs G _ L I=>(h S w vs G.dom G.env L fun j J=>(I j J).closed (O _ ?_)).mono ?_⟩
 ·rw[List.getD_eq_getElem?_getD,List.getElem?_eq_getElem J];exact List.getElem_mem _
 ·rintro e w' ⟨v,rfl,hg,hv⟩
  have F:∀n,Hn ([]:List (Option Blk)) n=none:=by
   intro n;cases n<;>simp[Hn]
  refine⟨v,S,fun _=>none,fun _=>0,rfl,⟨⟨fun n b H=>(by rw[F] at H;cases H),fun n m y M _ _ _=>(by rw[F] at M;cases M),fun b H=>Nat.lt_of_lt_of_le (G.dom b H) hg.size,hg.env G.dom G.env⟩,hg.size,fun b H _=>hg.old b H,fun _ h=>h,fun _ h=>.inl h,fun j x J=>(by simp at J),hg.out,fun j U J=>(by simp at J)⟩,.clo hv⟩
theorem bX.has {f:FuncId}{fn:Func}{ac:aF} (h:bX P f fn ac):mW P f:=by
 obtain⟨G,h2,H⟩:=h;obtain⟨F,I,_⟩:=Option.bind_eq_some_iff.1 h2;exact⟨fn,F,G,I,by simpa using H⟩
def kP:Nat→aF→aF
 |0,c=>c
 |n+1,.seq _ y=>kP n y
 |_+1,c=>c
def aCq [Envs] (P:Program) (C:Ctx) (dr:Nat→Array Oper→Option (List Nat)):Nat→aF→(St→Prop)→(sG→St→Prop)→St→Prop
 |0,_,N,_,σ=>N σ
 |n+1,.seq x y,N,E,σ=>wpc P C dr x (aCq P C dr n y N E) E σ
 |_+1,_,_,_,_=>False
variable {nt:Nat}{dr:Nat→Array Oper→Option (List Nat)}{Q:Exit→Act→World→Prop}
theorem At.upto [Envs] {C:Ctx} (F:iU P dr) (H:C.nt=nt) {N:St→Prop}{E:sG→St→Prop} (L:∀i a w,cK C (E (.exit i)) a w→Q (.exit i) a w) (M:∀a w,cK C (E .ret) a w→Q .ret a w) :
  ∀(n:Nat) (c:aF) {σ:St}{a:Act}{w:World}{S:Nat→Prop}{ρ:Name→Option Nat}{κ:Name→Nat},OK C σ.f a w S ρ κ→aCq P C dr n c N E σ→(∀a w,cK C N a w→At P nt dr (kP n c) Q a w)→At P nt dr c Q a w
 |0,c,σ,a,w,S,ρ,κ,hok,hv,hN=>hN a w ⟨σ,S,ρ,κ,hv,hok⟩
 | n + 1,.seq x y,σ,a,w,S,ρ,κ,hok,hv,hN=>At.seq (At.fw F hok H hv (fun a w G=>by
     obtain⟨σ',S',ρ',κ',J,I⟩:=G;exact At.upto F H L M n y I J hN) (fun i a w G=>L i a w G) fun a w G=>M a w G)
 |n+1,.skip,_,_,_,_,_,_,_,hv,_=>hv.elim
 |n+1,.region ..,_,_,_,_,_,_,_,hv,_=>hv.elim
 |n+1,.cond ..,_,_,_,_,_,_,_,hv,_=>hv.elim
 |n+1,.block ..,_,_,_,_,_,_,_,hv,_=>hv.elim
 |n+1,.loop ..,_,_,_,_,_,_,_,hv,_=>hv.elim
 |n+1,.exit ..,_,_,_,_,_,_,_,hv,_=>hv.elim
 |n+1,.ret,_,_,_,_,_,_,_,hv,_=>hv.elim
 |n+1,.closing ..,_,_,_,_,_,_,_,hv,_=>hv.elim
 |n+1,.naming ..,_,_,_,_,_,_,_,hv,_=>hv.elim
theorem fP {h:List (Name×Blk)}{n:Name}{b:Blk} (F:aB h n=some b):(n,b)∈h:=by
 induction h with
 |nil=>cases F
 | cons p r ih =>
  simp only[aB] at F;split at F
  ·rename_i e;obtain rfl:=Option.some.inj F;subst e;exact List.mem_cons_self
  ·exact List.mem_cons_of_mem _ (ih F)
theorem Later.refl (C:Ctx):Later C C:=⟨rfl,Nat.le_refl _,fun _ _ _=>rfl,fun _ h=>.inr h,fun _ h=>h,fun _ h=>.inl h,⟨rfl,rfl⟩,rfl,rfl,rfl⟩
attribute [go_sem] aCq
theorem OK.noS [Envs] {C:Ctx}{σ:FSt}{a:Act}{w:World}{S:Nat→Prop}{ρ:Name→Option Nat}{κ:Name→Nat} (H:OK C σ a w S ρ κ) {n:Name}{b:Blk} (U:σ.h n=some b) (L:b.fz=false) {x:Nat} (I:ρ n=some x):¬S x:=by
 have J:=H.hok.blk n b U;cases b with
 | var c z =>
  obtain⟨y,cs,T,fr,F,M,O,G,_⟩:=J;rw[I] at F;obtain rfl:=Option.some.inj F;exact G L
 | arr k l z =>
  obtain⟨_,⟨F,_⟩|⟨y,cs,T,fr,F,M,O,G,_⟩⟩:=J
  ·rw[I] at F;cases F
  ·rw[I] at F;obtain rfl:=Option.some.inj F;exact G L
theorem aBp [Envs] {fn:Func}{H C:Ctx} (Y:Later H C) (O:∀b,¬H.Mut b) {M:Nat→Prop}{t:Nat} (I:fn.results.toList=[.tmp t]) {a:Act}{w:World} (U:cK C (fun σ'=>LeL σ' ⟨[(t,.v (.bool true))],[]⟩) a w) :
  a.defers=[]∧∃v,(results fn a.tmps).run P w=.ok v w∧∃L,Ending.returned v=.returned L∧mZ H.w0 w∧RC M w (.v (.bool true)) L:=by
 obtain⟨S,ρ,κ,F⟩:=U.le;refine⟨F.defers,?_⟩
 obtain ⟨x,v,hx,J,G⟩:=uR (P:=P) F (fn:=fn) (K:=fun x=>x=.v (.bool true)) (by
   rw[I];show rR P _ _ [_]
   simp[rR,aEq,look,oJ])
 subst hx;refine⟨v,G,v,rfl,(F.back Y).grew fun b _=>O b,?_⟩;rw[bM J];exact .v _
end Go.Vs
