/- Walks begun anew, at values that are known of old. -/
import Derived.Test.YthfnpdhpefialaaGreatVtZ
set_option linter.all false
set_option maxHeartbeats 8000000
namespace Go.Vs
variable {P:Program}
open Classical in
@[reducible] noncomputable def keepE (S : Nat → Prop) (w : World) : Envs := ⟨((List.range w.heap.size).filter fun b => decide (S b)).map fun b => (b, fun o => o = w.heap[b]?)⟩
theorem keepE_mem {S:Nat→Prop}{w:World}{b:Nat} (hb:S b) (hlt:b<w.heap.size):(b,fun o=>o=w.heap[b]?)∈@envs (keepE S w):=by
 show _∈List.map _ _
 refine List.mem_map.2 ⟨b,?_,rfl⟩
 simp[hb,hlt]
theorem keepE_env {S:Nat→Prop}{w:World}:@Env (keepE S w) S w:=by
 intro p hp
 have hp':p∈List.map _ _:=hp
 obtain⟨b,hb,rfl⟩:=List.mem_map.1 hp'
 have:S b:=by simpa using(List.mem_filter.1 hb).2
 exact⟨this,rfl⟩
theorem keepE_known {S S':Nat→Prop}{w w':World} (hS:∀b,S b→b<w.heap.size) (he:@Env (keepE S w) S' w') {x:AV}{v:Value} (h:RC S w x v):RC S' w' x v:=
 letI:=keepE S w
 h.mono (fun b hb=>(he _ (keepE_mem hb (hS b hb))).1) fun b hb=>(he _ (keepE_mem hb (hS b hb))).2
theorem Fn.known [Envs] {f:FuncId}{hin:List Blk}{ys ys':List AV}{r:AV}{hout:List (Option Blk)} (h:Fn P f hin ys r hout) (hl:ys'.length=ys.length)
  (hk:∀j,j<ys.length→ys'.getD j .junk=ys.getD j .junk∨∃v,ys'.getD j .junk=.v v∧∀S w,Env S w→RC S w (ys.getD j .junk) v):Fn P f hin ys' r hout:=
 ⟨h.1,fun S w ρ κ vs hok hfz hvs hr=>h.2 S w ρ κ vs hok hfz (by rw[hvs,hl]) fun j hj=>by
   have:=hr j (by omega)
   rcases hk j hj with e|⟨v,e,hv⟩
   · rw[e] at this;exact this
   · rw[e] at this;rw[inv_v this];exact .clo (hv S w hok.env)⟩
structure Grew (w w':World):Prop where
 size:w.heap.size≤w'.heap.size
 old:∀b,b<w.heap.size→w'.heap[b]? = w.heap[b]?
 out:w'.os=w.os∧w'.output=w.output
theorem Grew.refl (w:World):Grew w w:=⟨Nat.le_refl _,fun _ _=>rfl,rfl,rfl⟩
theorem Grew.trans {w w' w'':World} (h:Grew w w') (h':Grew w' w''):Grew w w'':=
 ⟨Nat.le_trans h.size h'.size,fun b hb=>(h'.old b (Nat.lt_of_lt_of_le hb h.size)).trans (h.old b hb),h'.out.1.trans h.out.1,h'.out.2.trans h.out.2⟩
theorem Grew.rc {w w':World} (h:Grew w w') {S:Nat→Prop} (hS:∀b,S b→b<w.heap.size) {x:AV}{v:Value} (hx:RC S w x v):RC S w' x v:=
 letI:Envs:=⟨[]⟩
 hx.mono (fun _ h=>h) fun b hb=>h.old b (hS b hb)
theorem Grew.env [Envs] {w w':World} (h:Grew w w') {S:Nat→Prop} (hS:∀b,S b→b<w.heap.size) (he:Env S w):Env S w':=
 he.mono (fun _ h=>h) fun b hb=>h.old b (hS b hb)
theorem OK.grew [Envs] {C:Ctx}{σ:FSt}{a:Act}{w:World}{S:Nat→Prop}{ρ:Name→Option Nat}{κ:Name→Nat} (hok:OK C σ a w S ρ κ) (hm:∀b,b<C.w0.heap.size→¬C.Mut b):Grew C.w0 w:=
 ⟨hok.size,fun b hb=>hok.old b hb (hm b hb),hok.out⟩
theorem Fn.of_calls [Envs] {f:FuncId}{args:List AV}{r:AV} (hb:HasBody P f) (hc:∀x,x∈args→isClo x=true) (hr:flat r=true)
  (h : ∀(S:Nat→Prop) (w:World) (vs:Array Value),(∀b,S b→b<w.heap.size)→Env S w→vs.size=args.length→(∀j,j<args.length→RC S w (args.getD j .junk) (vs.getD j undef))→
    Calls P f vs w fun e w'=>∃v,e=.returned v∧Grew w w'∧RC S w' r v):Fn P f [] args r []:=by
 refine⟨hb,fun S w ρ κ vs hok _ hvs hargs=>(h S w vs hok.dom hok.env hvs fun j hj=>(hargs j hj).closed (hc _ ?_)).mono ?_⟩
 ·rw[List.getD_eq_getElem?_getD,List.getElem?_eq_getElem hj];exact List.getElem_mem _
 ·rintro e w' ⟨v,rfl,hg,hv⟩
  have hnone:∀n,Hn ([]:List (Option Blk)) n=none:=by
   intro n
   cases n<;>simp[Hn]
  refine⟨v,S,fun _=>none,fun _=>0,rfl,⟨⟨fun n b hb=>(by rw[hnone] at hb;cases hb),fun n m y hn _ _ _=>(by rw[hnone] at hn;cases hn),fun b hb=>Nat.lt_of_lt_of_le (hok.dom b hb) hg.size,hg.env hok.dom hok.env⟩,hg.size,fun b hb _=>hg.old b hb,fun _ h=>h,fun _ h=>.inl h,fun j x hj=>(by simp at hj),hg.out,fun j b' hj=>(by simp at hj)⟩,.clo hv⟩
theorem CodeIsR.has {f:FuncId}{fn:Func}{ac:ACode} (h:CodeIsR P f fn ac):HasBody P f:=by
 obtain⟨h1,h2,h3⟩:=h
 obtain⟨body,hb,_⟩:=Option.bind_eq_some_iff.1 h2
 exact⟨fn,body,h1,hb,by simpa using h3⟩
def dropS:Nat→ACode→ACode
 |0,c=>c
 |n+1,.seq _ y=>dropS n y
 |_+1,c=>c
def wpcN [Envs] (P:Program) (C:Ctx) (dr:Nat→Array Oper→Option (List Nat)):Nat→ACode→(St→Prop)→(AExit→St→Prop)→St→Prop
 |0,_,N,_,σ=>N σ
 |n+1,.seq x y,N,E,σ=>wpc P C dr x (wpcN P C dr n y N E) E σ
 |_+1,_,_,_,_=>False
variable {nt:Nat}{dr:Nat→Array Oper→Option (List Nat)}{Q:Exit→Act→World→Prop}
theorem At.upto [Envs] {C:Ctx} (hdr:DrawOK P dr) (hnt:C.nt=nt) {N:St→Prop}{E:AExit→St→Prop} (hE:∀i a w,GoodL C (E (.exit i)) a w→Q (.exit i) a w) (hR:∀a w,GoodL C (E .ret) a w→Q .ret a w) :
  ∀(n:Nat) (c:ACode) {σ:St}{a:Act}{w:World}{S:Nat→Prop}{ρ:Name→Option Nat}{κ:Name→Nat},OK C σ.f a w S ρ κ→wpcN P C dr n c N E σ→(∀a w,GoodL C N a w→At P nt dr (dropS n c) Q a w)→At P nt dr c Q a w
 |0,c,σ,a,w,S,ρ,κ,hok,hv,hN=>hN a w ⟨σ,S,ρ,κ,hv,hok⟩
 | n + 1,.seq x y,σ,a,w,S,ρ,κ,hok,hv,hN=>At.seq (At.fw hdr hok hnt hv (fun a w hg=>by
     obtain⟨σ',S',ρ',κ',hv',hok'⟩:=hg
     exact At.upto hdr hnt hE hR n y hok' hv' hN) (fun i a w hg=>hE i a w hg) fun a w hg=>hR a w hg)
 |n+1,.skip,_,_,_,_,_,_,_,hv,_=>hv.elim
 |n+1,.region ..,_,_,_,_,_,_,_,hv,_=>hv.elim
 |n+1,.cond ..,_,_,_,_,_,_,_,hv,_=>hv.elim
 |n+1,.block ..,_,_,_,_,_,_,_,hv,_=>hv.elim
 |n+1,.loop ..,_,_,_,_,_,_,_,hv,_=>hv.elim
 |n+1,.exit ..,_,_,_,_,_,_,_,hv,_=>hv.elim
 |n+1,.ret,_,_,_,_,_,_,_,hv,_=>hv.elim
 |n+1,.closing ..,_,_,_,_,_,_,_,hv,_=>hv.elim
 |n+1,.naming ..,_,_,_,_,_,_,_,hv,_=>hv.elim
theorem hlook_mem2 {h:List (Name×Blk)}{n:Name}{b:Blk} (hb:hlook h n=some b):(n,b)∈h:=by
 induction h with
 |nil=>cases hb
 | cons p r ih =>
  simp only[hlook] at hb
  split at hb
  ·rename_i e
   obtain rfl:=Option.some.inj hb
   subst e
   exact List.mem_cons_self
  ·exact List.mem_cons_of_mem _ (ih hb)
theorem OK.again (I I':Envs) {C:Ctx}{σ:St}{a:Act}{w:World}{S:Nat→Prop}{ρ:Name→Option Nat}{κ:Name→Nat} (hok:@OK I C σ.f a w S ρ κ) {S':Nat→Prop} (hS:∀b,S' b→b<w.heap.size) (he:@Env I' S' w)
  (hN:∀n x,(σ.f.h n).isSome→ρ n=some x→S' x→S x) (hcl:∀p,p∈σ.h→flatB p.2∧p.2.fz=false) (s':List (Nat×AV))
  (hs:∀p,p∈s'→(p.2=look σ.s p.1∧flat p.2=true)∨RC S' w p.2 (a.tmps.getD p.1 undef)) :
  @OK I' (C.anew w S' σ.f.h ρ) (⟨s',σ.h⟩:St).f a w S' ρ κ:=by
 have hl:∀(s:List (Nat×AV)) t,look s t=.junk∨(t,look s t)∈s:=by
  intro s
  induction s with
  |nil=>intro t;left;rfl
  | cons p r ih =>
   intro t
   simp only[look]
   split
   ·rename_i h;subst h;right;exact List.mem_cons_self
   ·rcases ih t with h|h
    ·left;exact h
    ·right;exact List.mem_cons_of_mem _ h
 obtain⟨o1,o2,o3,⟨k1,k2,k3,k4⟩,o5,o6,o7,o8,o9,o10,o11⟩:=hok
 refine⟨o1,o2,fun t=>?_,⟨fun n b hb=>?_,k2,hS,he⟩,Nat.le_refl _,fun _ _ _=>rfl,fun n x h1 h2=>.inr ⟨n,h1,h2⟩,fun _ h=>h,fun b hb=>.inl hb,⟨rfl,rfl⟩,o11⟩
 ·show RV S' w _ _ _ (look s' t) _
  rcases hl s' t with h|h
  ·rw[h];exact .junk _
  ·rcases hs _ h with⟨e,hf⟩|e
   ·have h1:=o3 t
    have e':look s' t=look σ.s t:=e
    have hf':flat (look s' t)=true:=hf
    rw[e'] at hf'⊢
    exact RV.flat h1 hf'
   ·exact .clo e
 ·have hb':σ.f.h n=some b:=hb
  have hk:=k1 n b hb'
  have hn:∀x,ρ n=some x→S' x→S x:=fun x hx=>hN n x (by rw[hb'];rfl) hx
  obtain⟨hf,hz⟩:=hcl _ (hlook_mem2 hb')
  cases b with
  | var c z =>
   obtain⟨x,cs,T,fr,g1,g2,g3,g4,g4',g5,g6,g7⟩:=hk
   have hz':z=false:=hz
   subst hz'
   exact⟨x,cs,T,fr,g1,g2,g3,fun _ hx=>g4 rfl (hn x g1 hx),fun h=>(by cases h),g5,g6,fun j hj=>⟨(g7 j hj).1,RV.flat (g7 j hj).2 (flatL_getD hf)⟩⟩
  | arr k l z =>
   have hz':z=false:=hz
   subst hz'
   obtain⟨g0,⟨g1,g2⟩|⟨x,cs,T,fr,g1,g2,g3,g4,g4',g5,g6,g7⟩⟩:=hk
   ·exact⟨g0,.inl ⟨g1,g2⟩⟩
   ·refine⟨g0,.inr ⟨x,cs,T,fr,g1,g2,g3,fun _ hx=>g4 rfl (hn x g1 hx),fun h=>(by cases h),g5,g6,fun i j hi hj=>⟨(g7 i j hi hj).1,RC.flat (g7 i j hi hj).2 (flatL_getD (hf _ ?_))⟩⟩⟩
    rw[List.getD_eq_getElem?_getD,List.getElem?_eq_getElem hi];exact List.getElem_mem _
theorem Later.refl (C:Ctx):Later C C:=⟨rfl,Nat.le_refl _,fun _ _ _=>rfl,fun _ h=>.inr h,fun _ h=>h,fun _ h=>.inl h,⟨rfl,rfl⟩,rfl,rfl,rfl⟩
attribute [go_sem] wpcN
theorem OK.noS [Envs] {C:Ctx}{σ:FSt}{a:Act}{w:World}{S:Nat→Prop}{ρ:Name→Option Nat}{κ:Name→Nat} (hok:OK C σ a w S ρ κ) {n:Name}{b:Blk} (hb:σ.h n=some b) (hz:b.fz=false) {x:Nat} (hx:ρ n=some x):¬S x:=by
 have hk:=hok.hok.blk n b hb
 cases b with
 | var c z =>
  obtain⟨y,cs,T,fr,g1,g2,g3,g4,_⟩:=hk
  rw[hx] at g1
  obtain rfl:=Option.some.inj g1
  exact g4 hz
 | arr k l z =>
  obtain⟨_,⟨g1,_⟩|⟨y,cs,T,fr,g1,g2,g3,g4,_⟩⟩:=hk
  ·rw[hx] at g1;cases g1
  ·rw[hx] at g1
   obtain rfl:=Option.some.inj g1
   exact g4 hz
theorem law_end [Envs] {fn:Func}{C0 C:Ctx} (hl:Later C0 C) (hM:∀b,¬C0.Mut b) {S0:Nat→Prop}{t:Nat} (hrs:fn.results.toList=[.tmp t]) {a:Act}{w:World} (hg:GoodL C (fun σ'=>LeL σ' ⟨[(t,.v (.bool true))],[]⟩) a w) :
  a.defers=[]∧∃v,(results fn a.tmps).run P w=.ok v w∧∃v',Ending.returned v=.returned v'∧Grew C0.w0 w∧RC S0 w (.v (.bool true)) v':=by
 obtain⟨S,ρ,κ,hok⟩:=hg.le
 refine⟨hok.defers,?_⟩
 obtain ⟨x,v,hx,hxv,hrun⟩:=res_run (P:=P) hok (fn:=fn) (K:=fun x=>x=.v (.bool true)) (by
   rw[hrs]
   show resL P _ _ [_]
   simp[resL,resV,look,oneOr])
 subst hx
 refine⟨v,hrun,v,rfl,(hok.back hl).grew fun b _=>hM b,?_⟩
 rw[inv_v hxv]
 exact .v _
end Go.Vs
