/- A region whose order is open: every order gives what the text's order gives. -/
import Derived.Test.YtfoddghhlagenaaGreatDoorVsX
set_option linter.all false
set_option maxHeartbeats 8000000
namespace Go.Vs
section
variable [Envs]
variable {P:Program}{C:Ctx}{a:Act}{w:World}{S:Nat->Prop}{ρ:Name->Option Nat}{κ:Name->Nat}
def tmpsOf:List Operand->List Nat
 | []=>[]
 |.tmp t::r=>t::tmpsOf r
 |_::r=>tmpsOf r
theorem oF:∀{l:List Operand}{t:Nat},t∉tmpsOf l->∀o,o∈l->o≠.tmp t
 | [],_,_,o,ho=>by cases ho
 | x::r,t,h,o,ho=>by
  rcases List.mem_cons.1 ho with rfl|ho
  .rintro rfl;simp[tmpsOf] at h
  .refine oF (l:=r) (λh'=>h ?_) o ho
   cases x<;>simp[tmpsOf,h']
def jJ (y:aH) (t:Nat):Bool:=(tmpsOf (aI y.op)).contains t||(match y.guard with|some (g,_)=>g==t|none=>false)
def gN (x y:aH):Bool:=
 (match x.dst with|some d=>!jJ y d&&!(y.dst==some d)|none=>true)&&(match y.dst with|some d=>!jJ x d|none=>true)
theorem aAv {x:aH}{d:Option Nat}{δ:Dl}{σ:FSt}{b:Bool} (h:∀t,d=some t->∀g w,x.guard=some (g,w)->g≠t):runs x (app d δ σ) b↔runs x σ b:=by
 unfold runs
 split
 .exact Iff.rfl
 .rename_i g want hg
  rw[kW λe=>h g e g want hg rfl]
theorem aCX {x y:aH}{σ:FSt}{δx δy:Dl} (hx:qO P x σ δx) (hy:qO P y (app x.dst δx σ) δy) (hs:WF σ) (fx:dB x=true) (fy:dB y=true) (hap:gN x y=true)
  (j1:∀t,x.dst=some t->σ.s t=.junk) (j2:∀t,y.dst=some t->σ.s t=.junk) :
  qO P y σ δy∧qO P x (app y.dst δy σ) δx∧app x.dst δx (app y.dst δy σ)=app y.dst δy (app x.dst δx σ):=by
 simp only[gN,Bool.and_eq_true] at hap
 have a0:∀t,x.dst=some t->jJ y t=false∧y.dst≠some t:=λt ht=>by
  have:=hap.1;rw[ht] at this;simpa using this
 have b0:∀t,y.dst=some t->jJ x t=false:=λt ht=>by
  have:=hap.2;rw[ht] at this;simpa using this
 have sees:∀{z:aH}{t:Nat},jJ z t=false->(∀o,o∈aI z.op->o≠.tmp t)∧∀g w,z.guard=some (g,w)->g≠t:=by
  intro z t h
  simp only[jJ,Bool.or_eq_false_iff] at h
  refine⟨oF (by simpa using h.1),λg w hg=>?_⟩
  have:=h.2;rw[hg] at this;simpa using this
 obtain⟨bx,rx,hx⟩:=hx
 obtain⟨by',ry,hy⟩:=hy
 rw[aAv λt ht=>(sees (a0 t ht).1).2] at ry
 have rx':∀δ,runs x (app y.dst δ σ) bx:=fun δ=>(aAv λt ht=>(sees (b0 t ht)).2).2 rx
 simp only[dB,Bool.and_eq_true] at fx fy
 have fre:∀(b:Bool) (z:aH),kU z.op=true->kU (xA b z)=true:=by
  intro b z h;cases b
  .rfl
  .exact h
 have ops:∀(b:Bool) (z:aH) (t:Nat),(∀o,o∈aI z.op->o≠.tmp t)->∀o,o∈aI (xA b z)->o≠.tmp t:=by
  intro b z t h o ho
  cases b
  .simp only[xA,aBR,aI,Bool.false_eq_true,if_false,List.mem_singleton] at ho
   subst ho;simp
  .exact h o ho
 obtain⟨h1,h2,h3⟩:=aEk (x:=xA bx x) (y:=xA by' y) hx hy hs (fre _ _ fx.1) (fre _ _ fy.1) (λt ht=>ops _ _ t (sees (a0 t ht).1).1) (λt ht=>ops _ _ t (sees (b0 t ht)).1) (λt ht=>(a0 t ht).2) j1 j2
 exact⟨⟨by',ry,h1⟩,⟨bx,rx' _,h2⟩,h3⟩
def atL (aops:List aH) (r:List Nat):List aH:=r.filterMap λi=>aops[i]?
def Real (C:Ctx) (σ:FSt):Prop:=∃(σl:St) (a:Act) (w:World) (S:Nat->Prop) (ρ:Name->Option Nat) (κ:Name->Nat),σl.f=σ∧OK C σl.f a w S ρ κ
structure Pair (x y:aH):Prop where
 fx:dB x=true
 fy:dB y=true
 ap:gN x y=true
theorem aAH {ops:Array Oper}{i:Nat}{o:Oper}{ao:aH}{σ:FSt}{δ:Dl} (ho:ops[i]? = some o) (hc:gY P C.nt ops o=some ao.bare) (hr:Real C σ) (he:qO P ao σ δ):Real C (app ao.dst δ σ):=by
 obtain⟨σl,a,w,S,ρ,κ,rfl,hok⟩:=hr
 have hv:=aDi (P:=P) (o:=ao) (σ:=canon σl) (δ:=δ) (uH σl) (by rw[iF];exact he)
 obtain⟨a',w',σ',S',ρ',κ',h1,h2⟩:=aBP (aB3 (Q:=λ_ _ _=>False) ho hc hv (by rw[iF];exact hok))
 rw[iF] at h1
 exact⟨σ',a',w',S',ρ',κ',h1,h2⟩
/-! ## a value that is copied, and a write behind it -/
def aAk:AOp->Option (Operand×Option Nat)
 |.mv o=>some (o,none)
 |.extract o i=>some (o,some i)
 |_=>none
def tO:AOp->Bool
 |.mv _=>true
 |.extract _ _=>true
 |.bin _ _ _=>true
 |.conv _ _=>true
 |_=>false
def aCT:AOp->Prop
 |.loadV _ _ _=>True
 |.fieldV _ _=>True
 |_=>False
structure aBe (x y:aH):Prop where
 fx:dB x=true
 fy:dB y=false
 g:y.guard=none
 ap:gN x y=true
 k:(∃k A X,y.op=.store k A X∧tO x.op=true)∨∃k b A X o,(y.op=.append k b A X∨y.op=.appendC k b A X)∧(x.op=.mv o∨aCT x.op)
theorem aA3 {d:Option Nat}{op:AOp}{o:Operand}{oi:Option Nat}{σ σ':FSt}{δ:Dl} (hop:aAk op=some (o,oi)) (he:Eff P d op σ δ) (e:evO σ'.s o=evO σ.s o):Eff P d op σ' δ∧δ.nb=[]∧δ.fz=false:=by
 cases he with
 | rd v h1 h2 h3 =>
  refine⟨?_,rfl,rfl⟩
  cases op<;>simp only[aAk,Option.some.injEq,Prod.mk.injEq] at hop<;>try(cases hop;done)
  case mv x =>
   obtain⟨rfl,rfl⟩:=hop
   have hv:=h2 (λu=>u=v) rfl
   simp only[rd] at hv
   refine .rd v rfl (λK hK=>?_) λp hp _=>?_
   .simp only[rd];rw[e,hv];exact hK
   .have:=hp x (by simp[aI]);rwa [e,hv] at this
  case extract x i =>
   obtain⟨rfl,rfl⟩:=hop
   have hv:=h2 (λu=>u=v) rfl
   simp only[rd] at hv
   split at hv
   .rename_i c hc
    refine .rd v rfl (λK hK=>?_) λp hp _=>?_
    .simp only[rd];rw[e,hc];exact⟨hv.1,by rw[hv.2];exact hK⟩
    .have:=hp x (by simp[aI])
     rw[e,hc] at this
     rw[←hv.2]
     exact Nm.getD this.wJ _
   .exact hv.elim
 | al d' hd v b h1 hf hn h2 h3 =>
  exfalso
  have:=h1 (λ_ _=>True) trivial
  cases op<;>simp only[aAk] at hop<;>first|(cases hop;done)|exact this.elim
 | call d' hd f args hop' g caps hg ys L hm r hout fz hfn hflat hfr =>
  subst hop';simp[aAk] at hop
theorem aEl {d:Option Nat}{op:AOp}{σ σ':FSt}{δ:Dl} (hop:tO op=true) (he:Eff P d op σ δ) (e:∀o,o∈aI op->evO σ'.s o=evO σ.s o):Eff P d op σ' δ∧δ.nb=[]∧δ.fz=false:=by
 cases he with
 | rd v h1 h2 h3 =>
  refine⟨?_,rfl,rfl⟩
  cases op<;>simp only[tO] at hop<;>try(cases hop;done)
  case mv x =>
   exact(aA3 (o:=x) (oi:=none) rfl (.rd v h1 h2 h3) (e x (by simp[aI]))).1
  case extract x i =>
   exact(aA3 (o:=x) (oi:=some i) rfl (.rd v h1 h2 h3) (e x (by simp[aI]))).1
  case bin b x y =>
   have hv:=h2 (λu=>u=v) rfl
   have hvv:∃z,v=.v z:=by
    simp only[rd] at hv
    split at hv
    .unfold aA9 at hv
     cases b<;>exact⟨_,hv.2.symm⟩
    .exact hv.elim
   obtain⟨z,rfl⟩:=hvv
   refine .rd _ rfl (λK hK=>?_) λp _ _=>.v _ _
   have:=h2 K hK
   simp only[rd] at this⊢
   rw[e x (by simp[aI]),e y (by simp[aI])];exact this
  case conv k x =>
   have hv:=h2 (λu=>u=v) rfl
   have hvv:∃z,v=.v z:=by
    simp only[rd] at hv
    split at hv
    .exact⟨_,hv.symm⟩
    .exact hv.elim
   obtain⟨z,rfl⟩:=hvv
   refine .rd _ rfl (λK hK=>?_) λp _ _=>.v _ _
   have:=h2 K hK
   simp only[rd] at this⊢
   rw[e x (by simp[aI])];exact this
 | al d' hd v b h1 hf hn h2 h3 =>
  exfalso
  have:=h1 (λ_ _=>True) trivial
  cases op<;>simp only[tO] at hop<;>first|(cases hop;done)|exact this.elim
 | call d' hd f args hop' g caps hg ys L hm r hout fz hfn hflat hfr =>
  subst hop';simp[tO] at hop
theorem yA {σ:St} (hc:Canon σ) (on:Option Name):Canon (aK on σ):=by
 cases on with
 |none=>exact hc
 | some n =>
  refine⟨λp hp=>?_,λp hp=>?_⟩
  .simp only[aK,dA] at hp⊢
   obtain⟨q,hq,rfl⟩:=List.mem_map.1 hp
   simp only
   rw[jB (scr n) (by simp[scr,AV.has]),hc.1 q hq]
  .simp only[aK,dA] at hp⊢
   obtain⟨q,hq,rfl⟩:=List.mem_map.1 hp
   obtain⟨h1,h2⟩:=List.mem_filter.1 hq
   simp only[Bool.not_eq_true',decide_eq_false_iff_not] at h2
   simp only
   rw[mO,if_neg h2,hc.2 q h1];rfl
theorem cZ {σ:St}{on:Option Name} (t:Nat):look (aK on σ).s t=match on with|some n=>scr n (look σ.s t)|none=>look σ.s t:=by
 cases on with
 |none=>rfl
 | some n =>
  simp only[aK,dA]
  rw[jB (scr n) (by simp[scr,AV.has])]
theorem cK {σ:St}{on:Option Name} (m:Name):aA (aK on σ).h m=match on with|some n=>if m=n then none else(aA σ.h m).map (rR n)|none=>aA σ.h m:=by
 cases on with
 |none=>rfl
 | some n =>
  simp only[aK,dA]
  rw[mO]
theorem aDb {k:Nat}{h:Name->Option Blk}{x:AV}{on:Option Name}{l:List (List AV)} (hb:vY k h x=some (on,l)):∀n,on=some n->∃k l z,h n=some (.arr k l z):=by
 intro n hn
 subst hn
 unfold vY at hb
 split at hb
 .simp at hb
 .split at hb
  .rename_i k' l' z hx
   split at hb
   .simp only[Option.some.injEq,Prod.mk.injEq] at hb
    obtain⟨rfl,_⟩:=hb
    exact⟨_,_,_,hx⟩
   .cases hb
  .cases hb
 .cases hb
def dH:Option Name->AV->AV
 |some n,x=>scr n x
 |none,x=>x
theorem aDs (on:Option Name) (x:Value):dH on (.v x)=.v x:=by cases on<;>simp[dH,scr,AV.has]
theorem uN (on:Option Name):dH on .junk=.junk:=by cases on<;>simp[dH,scr,AV.has]
theorem rQ {on:Option Name}:∀{l:List AV},l.all mG=true->l.map (dH on)=l
 | [],_=>rfl
 | x::r,h=>by
  simp only[List.all_cons,Bool.and_eq_true] at h
  rw[List.map_cons,rQ h.2]
  cases x<;>simp[mG] at h
  rw[aDs]
theorem vM {on:Option Name}:∀{l:List AV},(l.map (dH on)).all mG=true->l.map (dH on)=l
 | [],_=>rfl
 | x::r,h=>by
  simp only[List.map_cons,List.all_cons,Bool.and_eq_true] at h
  rw[List.map_cons,vM h.2]
  congr 1
  cases on with
  |none=>rfl
  | some n =>
   simp only[dH,scr] at h⊢
   split
   .rename_i hh;rw[if_pos hh] at h;simp[mG] at h
   .rfl
theorem sD {n:Name}:∀{l:List AV},l.all mG=true->iL n l=false
 | [],_=>rfl
 | x::r,h=>by
  simp only[List.all_cons,Bool.and_eq_true] at h
  simp only[iL,sD h.2,Bool.or_false]
  cases x<;>simp[mG] at h
  rfl
theorem sQ {on:Option Name}{m:Name}{e c:Nat} (h:∀n,on=some n->m≠n):dH on (.ptr m e c)=.ptr m e c:=by
 cases on with
 |none=>rfl
 |some n=>simp[dH,scr,AV.has,h n rfl]
theorem sP {on:Option Name}{x:AV}{m:Name}{e c:Nat} (h:dH on x=.ptr m e c):x=.ptr m e c∧∀n,on=some n->m≠n:=by
 cases on with
 |none=>exact⟨h,λn h=>by cases h⟩
 | some n =>
  simp only[dH,scr] at h
  split at h
  .cases h
  .rename_i hh
   subst h
   refine⟨rfl,λn' hn=>?_⟩
   obtain rfl:=Option.some.inj hn
   simpa[AV.has] using hh
theorem wG (f:AV->AV) (cs:List AV) (z:Bool) (e:Nat):(Blk.var (cs.map f) z).row e=((Blk.var cs z).row e).map f:=by cases e<;>rfl
theorem zQ {on:Option Name}{g:Bool}{l:List AV} (h:(!g||l.all mG)=true):AV.mk g (l.map (dH on))=dH on (AV.mk g l):=by
 cases g with
 | false =>
  simp only[AV.mk,Bool.false_eq_true,if_false]
  cases l with
  |nil=>exact(uN on).symm
  |cons x r=>rfl
 | true =>
  simp only[Bool.not_true,Bool.false_or] at h
  simp only[AV.mk,if_true]
  rw[rQ h]
  cases on with
  |none=>rfl
  |some n=>simp[dH,scr,AV.has,sD h]
theorem aCP {d:Option Nat}{op:AOp}{σ τ:FSt}{δ:Dl}{on:Option Name} (hop:aCT op) (he:Eff P d op σ δ)
  (hev:∀o,o∈aI op->evO τ.s o=dH on (evO σ.s o)) (hon:∀n,on=some n->∃k l z,σ.h n=some (.arr k l z))
  (hh:∀m c z,σ.h m=some (.var c z)->τ.h m=some (.var (c.map (dH on)) z)):Eff P d op τ ⟨dH on δ.v,[],false,[],λ_=>False⟩:=by
 have mne:∀{m:Name}{c:List AV}{z:Bool},σ.h m=some (.var c z)->∀n,on=some n->m≠n:=by
  intro m c z hm n hn e
  obtain⟨k,l,z',h⟩:=hon n hn
  rw[←e,hm] at h;cases h
 cases op<;>simp only[aCT] at hop
 case loadV g k a =>
  cases he with
  | rd v h1 h2 h3 =>
   have hv:=h2 (λu=>u=v) rfl
   have ha:=hev a (by simp[aI])
   simp only[rd] at hv
   split at hv
   .rename_i m e c hx
    split at hv
    .rename_i cs z hb
     rw[hx,sQ (mne hb)] at ha
     have hb':=hh m cs z hb
     obtain⟨⟨hl,hp⟩,rfl⟩:=hv
     have em:((((Blk.var (cs.map (dH on)) z).row e).drop c).take k)=((((Blk.var cs z).row e).drop c).take k).map (dH on):=by
      rw[wG,List.map_take,List.map_drop]
     have ep:((!g||(((((Blk.var cs z).row e).drop c).take k).map (dH on)).all mG)=true):=by
      cases g with
      |false=>rfl
      | true =>
       simp only[Bool.not_true,Bool.false_or] at hp⊢
       rw[rQ hp];exact hp
     refine .rd _ rfl (λK hK=>?_) λp hp' hq=>?_
     .simp only[rd,ha,hb']
      refine⟨⟨by rw[wG,List.length_map];exact hl,by rw[em];exact ep⟩,?_⟩
      rw[em,zQ hp];exact hK
     .have hpa:=hp' a (by simp[aI])
      rw[ha] at hpa
      rw[←zQ hp,←em]
      exact NmL.mk (NmL.take (NmL.drop ((hq m _ hpa.bZ hb').row e) _) _)
    .exact hv.elim
   .exact hv.elim
  |al d' hd v b h1 hf hn h2 h3=>exact(h1 (λ_ _=>True) trivial).elim
  |call d' hd f args hop' g caps hg ys L hm r hout fz hfn hflat hfr=>cases hop'
 case fieldV off x =>
  cases he with
  | rd v h1 h2 h3 =>
   have hv:=h2 (λu=>u=v) rfl
   have ha:=hev x (by simp[aI])
   simp only[rd] at hv
   split at hv
   .rename_i m e c hx
    split at hv
    .rename_i cs z hb
     rw[hx,sQ (mne hb)] at ha
     have hb':=hh m cs z hb
     subst hv
     simp only[sQ (mne hb)]
     refine .rd _ rfl (λK hK=>?_) λp hp' hq=>?_
     .simp only[rd,ha,hb'];exact hK
     .have hpa:=hp' x (by simp[aI])
      rw[ha] at hpa
      exact .ptr _ _ _ _ hpa.bZ
    .exact hv.elim
   .exact hv.elim
  |al d' hd v b h1 hf hn h2 h3=>exact(h1 (λ_ _=>True) trivial).elim
  |call d' hd f args hop' g caps hg ys L hm r hout fz hfn hflat hfr=>cases hop'
theorem aCY {d:Option Nat}{op:AOp}{σ:FSt}{δ:Dl} (hr:oO op=true) (he:Eff P d op σ δ):δ.nb=[]∧δ.fz=false:=by
 cases he with
 |rd v h1 h2 h3=>exact⟨rfl,rfl⟩
 | al d' hd v b h1 hf hn h2 h3 =>
  exfalso
  have:=h1 (λ_ _=>True) trivial
  cases op<;>simp only[oO] at hr<;>first|(cases hr;done)|exact this.elim
 |call d' hd f args hop' g caps hg ys L hm r hout fz hfn hflat hfr=>subst hop';cases hr
theorem aCU {x y:aH}{σ:FSt}{σ0 σl:St}{δx:Dl}{K:FSt->Prop} (hx:qO P x σ δx) (hp:aBe x y) (h0:σ0.f=σ) (j1:∀t,x.dst=some t->σ.s t=.junk) (hl:σl.f=app x.dst δx σ)
  (hv:vc P (fun σ'=>K σ'.f) [y] σl):∃σ2:St,σ2.f=σ∧vc P (fun σ'=>∃δ',qO P x σ'.f δ'∧K (app x.dst δ' σ'.f)) [y] σ2:=by
 subst h0
 have hap:=hp.ap
 simp only[gN,Bool.and_eq_true] at hap
 have a0:∀t,x.dst=some t->jJ y t=false∧y.dst≠some t:=λt ht=>by
  have:=hap.1;rw[ht] at this;simpa using this
 have b0:∀t,y.dst=some t->jJ x t=false:=λt ht=>by
  have:=hap.2;rw[ht] at this;simpa using this
 have sees:∀{z:aH}{t:Nat},jJ z t=false->(∀o,o∈aI z.op->o≠.tmp t)∧∀g w,z.guard=some (g,w)->g≠t:=by
  intro z t h
  simp only[jJ,Bool.or_eq_false_iff] at h
  refine⟨oF (by simpa using h.1),λg w hg=>?_⟩
  have:=h.2;rw[hg] at this;simpa using this
 obtain⟨b,rx,hxs⟩:=hx
 have hrdx:oO (xA b x)=true:=by
  cases b
  .rfl
  .rcases hp.k with⟨_,_,_,_,h⟩|⟨_,_,_,_,o,_,h⟩
   .show oO x.op=true
    revert h;cases x.op<;>intro h<;>first|rfl|simp[tO] at h
   .show oO x.op=true
    rcases h with h|h
    .rw[h];rfl
    .revert h;cases x.op<;>intro h<;>first|rfl|exact h.elim
 have hnb:δx.nb=[]∧δx.fz=false:=aCY hrdx hxs
 have hh:∀(d:Option Nat) (τ:FSt) (δ:Dl),δ.nb=[]->δ.fz=false->(app d δ τ).h=τ.h:=by
  intro d τ δ e1 e2
  funext n
  rw[rO,e1,e2]
  simp[aA]
 have es:∀t,look σl.s t=(app x.dst δx σ0.f).s t:=λt=>congrFun (congrArg FSt.s hl) t
 have eh:aA σl.h=aA σ0.h:=by
  have:=congrArg FSt.h hl
  rw[hh _ _ _ hnb.1 hnb.2] at this
  exact this
 have ev:∀z,z∈aI y.op->evO (look σl.s) z=evO (look σ0.s) z:=by
  intro z hz
  have e:evO (look σl.s) z=evO (app x.dst δx σ0.f).s z:=by
   cases z<;>first|rfl|exact es _
  rw[e]
  exact wN λt ht=>(sees (a0 t ht).1).1 z hz
 simp only[vc,hp.g] at hv
 rcases hp.k with⟨k,A,X,hy,hpx⟩|⟨k,by',A,X,o',hy,hxop⟩
 .have hpur:tO (xA b x)=true:=by
   cases b
   .rfl
   .exact hpx
  rw[hy] at hv ev
  refine⟨σ0,rfl,?_⟩
  simp only[vc,hp.g,hy]
  simp only[aV] at hv⊢
  refine⟨hv.1,?_⟩
  have hv:=hv.2
  rw[ev A (by simp[aI]),ev X (by simp[aI]),eh] at hv
  split at hv
  .rename_i n e c hA
   split at hv
   .rename_i bl cs hb hcs
    refine⟨hv.1,?_⟩
    have hK:=hv.2
    have est:((⟨σl.s,hset n (bl.setRow e (lay (bl.row e) c cs)) σl.h⟩:St)).f=app x.dst δx (⟨σ0.s,hset n (bl.setRow e (lay (bl.row e) c cs)) σ0.h⟩:St).f:=by
     have e1:(⟨σl.s,hset n (bl.setRow e (lay (bl.row e) c cs)) σl.h⟩:St).f.s=(app x.dst δx (⟨σ0.s,hset n (bl.setRow e (lay (bl.row e) c cs)) σ0.h⟩:St).f).s:=funext λt=>es t
     have e2:(⟨σl.s,hset n (bl.setRow e (lay (bl.row e) c cs)) σl.h⟩:St).f.h=(app x.dst δx (⟨σ0.s,hset n (bl.setRow e (lay (bl.row e) c cs)) σ0.h⟩:St).f).h:=by
      rw[hh _ _ _ hnb.1 hnb.2]
      simp only[St.f,oP,eh]
     exact congr (congrArg FSt.mk e1) e2
    refine⟨δx,⟨b,?_,?_⟩,by rw[←est];exact hK⟩
    .unfold runs at rx⊢;exact rx
    .exact(aEl (σ':=(⟨σ0.s,hset n (bl.setRow e (lay (bl.row e) c cs)) σ0.h⟩:St).f) hpur hxs λ_ _=>rfl).1
   .exact hv.elim
  .exact hv.elim
 .have main:∀(d:Nat),y.dst=some d->∀(v0:AV) (B:List (Name×Blk)->List (Name×Blk)) (on:Option Name),(∀h h',aA h=aA h'->aA (B h)=aA (B h'))->(∀h m,m≠.t d 0->aA (B h) m=aA h m)->aA (aK on σl).h (.t d 0)=none->(∀n,on=some n->∃k l z,aA σ0.h n=some (.arr k l z))->
    K (⟨(d,v0)::(aK on σl).s,B (aK on σl).h⟩:St).f->∃δ',qO P x (⟨(d,v0)::(aK on (canon σ0)).s,B (aK on (canon σ0)).h⟩:St).f δ'∧K (app x.dst δ' (⟨(d,v0)::(aK on (canon σ0)).s,B (aK on (canon σ0)).h⟩:St).f):=by
   intro d hd v0 B on hB hBm hfn hon hK
   have es0:∀t,look (canon σ0).s t=look σ0.s t:=λt=>congrFun (congrArg FSt.s (iF σ0)) t
   have eh0:aA (canon σ0).h=aA σ0.h:=congrArg FSt.h (iF σ0)
   have hdx:∀t,x.dst=some t->d≠t:=λt ht e=>(a0 t ht).2 (by rw[hd,e])
   let τ:St:=⟨(d,v0)::(aK on (canon σ0)).s,B (aK on (canon σ0)).h⟩
   let v':AV:=match on with|some n=>scr n δx.v|none=>δx.v
   have est:(⟨(d,v0)::(aK on σl).s,B (aK on σl).h⟩:St).f=app x.dst ⟨v',[],false,[],λ_=>False⟩ τ.f:=by
    have e1:(⟨(d,v0)::(aK on σl).s,B (aK on σl).h⟩:St).f.s=(app x.dst ⟨v',[],false,[],λ_=>False⟩ τ.f).s:=by
     funext t
     simp only[St.f,look,cZ]
     by_cases ht:x.dst=some t
     .have h2:=hdx t ht
      rw[if_neg (λe=>h2 e.symm)]
      have e3:=es t
      rw[ht] at e3⊢
      rw[kM] at e3
      rw[kM,e3]
      cases on<;>rfl
     .rw[kW ht]
      have e3:=es t
      rw[kW ht] at e3
      simp only[τ,look,cZ,es0]
      rw[e3];rfl
    have e2:(⟨(d,v0)::(aK on σl).s,B (aK on σl).h⟩:St).f.h=(app x.dst ⟨v',[],false,[],λ_=>False⟩ τ.f).h:=by
     rw[hh _ _ _ rfl rfl]
     refine hB _ _ (funext λm=>?_)
     simp only[cK,eh,eh0]
    exact congr (congrArg FSt.mk e1) e2
   have hτ:∀z,z∈aI x.op->z≠.tmp d:=λz hz=>(sees (b0 d hd)).1 z hz
   refine⟨⟨v',[],false,[],λ_=>False⟩,⟨b,?_,?_⟩,by show K (app x.dst _ τ.f);rw[←est];exact hK⟩
   .unfold runs at rx⊢
    split at rx
    .exact rx
    .rename_i g want hg
     have hgd:=(sees (b0 d hd)).2 g want hg
     rcases rx with⟨c,hc,hbc⟩|⟨⟨cs,hc⟩,hbc⟩
     .refine .inl ⟨c,?_,hbc⟩
      simp only[St.f,look]
      rw[if_neg hgd,cZ,es0]
      simp only[St.f] at hc
      rw[hc]
      cases on<;>simp[scr,AV.has]
     .refine .inr ⟨⟨cs,?_⟩,hbc⟩
      simp only[St.f,look]
      rw[if_neg hgd,cZ,es0]
      simp only[St.f] at hc
      rw[hc]
      cases on<;>simp[scr,AV.has]
   .-- the copied value, behind the write
    have hmv:(∃o2,xA b x=.mv o2∧o2≠.tmp d)∨aCT (xA b x):=by
     cases b
     .exact .inl ⟨_,rfl,by simp⟩
     .rcases hxop with hxop|hxop
      .exact .inl ⟨o',hxop,hτ o' (by rw[hxop];simp[aI])⟩
      .exact .inr hxop
    rcases hmv with hmv|hlv
    rotate_left
    .have hbt:b=true:=by
      cases b
      .exact hlv.elim
      .rfl
     subst hbt
     have hlx:aCT x.op:=hlv
     have heff:Eff P x.dst x.op τ.f ⟨dH on δx.v,[],false,[],λ_=>False⟩:=by
      refine aCP hlx hxs (λz hz=>?_) (λn hn=>?_) (λm c z hm=>?_)
      .have hzd:=hτ z hz
       show evO (look τ.s) z=dH on (evO (look σ0.s) z)
       revert hz
       cases hxe:x.op<;>intro hz<;>simp only[hxe,aCT] at hlx
       all_goals
        cases z with
        | tmp t =>
         have htd:t≠d:=λe=>hzd (by rw[e])
         simp only[evO,τ,look]
         rw[if_neg htd,cZ,es0]
         cases on<;>rfl
        | const w =>
         simp only[evO]
         cases on with
         |none=>rfl
         | some n =>
          simp only[dH,scr]
          rw[if_neg]
          cases w<;>simp[AV.ofValue,AV.has]
          rename_i cs
          have:bU (λm=>m=n) (List.map (λx=>AV.v x) (Array.toList cs)):=bU.of_mem λx hx=>by
           obtain⟨y,_,rfl⟩:=List.mem_map.1 hx
           exact Off.v _
          exact this n rfl
        |global g=>simp only[evO];exact(uN on).symm
        |func f=>simp only[evO];cases on<;>simp[dH,scr,AV.has,iL]
      .exact hon n hn
      .have hmt:m≠.t d 0:=by
        rintro rfl
        rw[cK,eh] at hfn
        simp only[St.f] at hm
        cases on with
        |none=>simp only at hfn;rw[hm] at hfn;cases hfn
        | some n =>
         obtain⟨k',l',z',hn⟩:=hon n rfl
         simp only at hfn
         split at hfn
         .rename_i e;rw[←e,hm] at hn;cases hn
         .rw[hm] at hfn;cases hfn
       show aA τ.h m=_
       simp only[τ]
       rw[hBm _ _ hmt,cK,eh0]
       simp only[St.f] at hm
       cases on with
       |none=>rw[show c.map (dH none)=c by rw[show dH none=id from rfl];simp];exact hm
       | some n =>
        obtain⟨k',l',z',hn⟩:=hon n rfl
        have hmn:m≠n:=λe=>by rw[←e,hm] at hn;cases hn
        simp only
        rw[if_neg hmn,hm];rfl
     have ev':v'=dH on δx.v:=by cases on<;>rfl
     rw[ev']
     exact heff
    obtain⟨o2,hmv,ho2⟩:=hmv
    unfold EffS at hxs⊢
    rw[hmv] at hxs⊢
    cases hxs with
    | rd v h1 h2 h3 =>
     have hv':=h2 (λu=>u=v) rfl
     simp only[rd] at hv'
     have hev:evO τ.f.s o2=v':=by
      show evO (look τ.s) o2=v'
      cases o2 with
      | tmp t =>
       have htd:t≠d:=λe=>ho2 (by rw[e])
       simp only[evO,τ,look]
       rw[if_neg htd,cZ,es0]
       simp only[evO,St.f] at hv'
       rw[hv']
       cases on<;>rfl
      | const w =>
       simp only[evO] at hv'⊢
       simp only[v']
       rw[←hv']
       cases on with
       |none=>rfl
       | some n =>
        simp only[scr]
        rw[if_neg]
        cases w<;>simp[AV.ofValue,AV.has]
        rename_i cs
        have:bU (λm=>m=n) (List.map (λx=>AV.v x) (Array.toList cs)):=bU.of_mem λx hx=>by
         obtain⟨y,_,rfl⟩:=List.mem_map.1 hx
         exact Off.v _
        exact this n rfl
      | global g =>
       simp only[evO] at hv'⊢
       simp only[v']
       rw[←hv']
       cases on<;>simp[scr,AV.has]
      | func f =>
       simp only[evO] at hv'⊢
       simp only[v']
       rw[←hv']
       cases on<;>simp[scr,AV.has,iL]
     refine .rd v' rfl (λK hK=>?_) λp hp' _=>?_
     .simp only[rd];rw[hev];exact hK
     .have:=hp' o2 (by simp[aI]);rwa [hev] at this
    |al d' hd' v b h1 hf hn h2 h3=>exact(h1 (λ_ _=>True) trivial).elim
    |call d' hd' f args hop' g caps hg ys L hm r hout fz hfn hflat hfr=>cases hop'
  have es0:∀t,look (canon σ0).s t=look σ0.s t:=λt=>congrFun (congrArg FSt.s (iF σ0)) t
  have eh0:aA (canon σ0).h=aA σ0.h:=congrArg FSt.h (iF σ0)
  have ev0:∀z,evO (look (canon σ0).s) z=evO (look σ0.s) z:=by
   intro z;cases z<;>first|rfl|exact es0 _
  have fresh:∀(d:Nat),y.dst=some d->∀(on:Option Name),bG (.t d 0) (aK on σl)=true->bG (.t d 0) (aK on (canon σ0))=true:=by
   intro d hd on hf
   have hfr:dU (.t d 0) (aK on (canon σ0)).f:=by
    have h1:=bS hf
    refine⟨⟨?_,h1.1.2⟩,λt=>?_,λm bl hbl=>?_⟩
    .have:=h1.1.1
     simp only[St.f,cK] at this⊢
     rw[eh0,←eh];exact this
    .have:=h1.2.1 t
     simp only[St.f,cZ] at this⊢
     rw[es0]
     by_cases ht:x.dst=some t
     .have:=j1 t ht
      simp only[St.f] at this
      rw[this]
      cases on with
      |none=>rfl
      |some n=>simp[scr,AV.has]
     .have e2:=es t
      rw[kW ht] at e2
      rw[e2] at this
      exact this
    .refine h1.2.2 m bl ?_
     simp only[St.f,cK] at hbl⊢
     rw[eh0,←eh] at hbl;exact hbl
   exact rD (yA (uH σ0) on) rfl hfr
  refine⟨canon σ0,iF σ0,?_⟩
  rcases hy with hy|hy<;>rw[hy] at hv ev
  all_goals
   cases hd:y.dst with
   |none=>rw[hd] at hv;exact hv.elim
   | some d =>
    rw[hd] at hv
    simp only[vc,hp.g,hy,hd]
    simp only[aV] at hv⊢
    rw[ev A (by simp[aI]),ev X (by simp[aI]),eh] at hv
    rw[ev0 A,ev0 X,eh0]
    split at hv
    .rename_i on l l' hA hX
     obtain⟨⟨hf,hsz⟩,hK⟩:=hv
     refine⟨⟨fresh d hd on hf,hsz⟩,?_⟩
     have hon:=aDb hA
     have hfn:=qF hf
     first
      |exact main d hd (.loc (.t d 0) 0 (l.length+l'.length)) (λh=>(.t d 0,.arr k (l++l') false)::h) on (λh h' e=>by funext m;simp only[aA,e]) (λh m hm=>by simp only[aA];rw[if_neg hm]) hfn hon hK
      |exact main d hd (.sl k (l++l')) (λh=>h) on (λh h' e=>e) (λh m hm=>rfl) hfn hon hK
    .exact hv.elim
theorem aEG {ops:Array Oper}{K:FSt->Prop}{y:aH}:∀(l1 l2:List aH) (σ:FSt),(∀x,x∈l1->aBe x y∧∃(i:Nat) (o:Oper),ops[i]? = some o∧gY P C.nt ops o=some x.bare)->
  (l1.Pairwise λx x'=>∀t,x'.dst=some t->x.dst≠some t)->Real C σ->(∀x,x∈l1->∀t,x.dst=some t->σ.s t=.junk)->
  vcE P K (l1++y::l2) σ->vcE P K (y::(l1++l2)) σ
 | [],l2,σ,_,_,_,_,hv=>hv
 | x::l1,l2,σ,hp,hd,hr,j1,hv=>by
  obtain⟨hpx,i,o,ho,hc⟩:=hp x (by simp)
  have fx:=hpx.fx
  have fy:=hpx.fy
  simp only[List.cons_append,vcE,fx,if_true] at hv
  obtain⟨δx,h1,h2⟩:=hv
  have:=aEG l1 l2 (app x.dst δx σ) (λz hz=>hp z (by simp[hz])) hd.tail (aAH ho hc hr h1) (λz hz t ht=>by
    rw[kW ((List.rel_of_pairwise_cons hd hz) t ht)]
    exact j1 z (by simp[hz]) t ht) h2
  simp only[vcE,fy,Bool.false_eq_true,if_false] at this
  obtain⟨σl,h3,h4⟩:=this
  obtain⟨σ0,a,w,S,ρ,κ,e,hok⟩:=hr
  obtain⟨σ2,h5,h6⟩:=aCU (K:=λf=>vcE P K (l1++l2) f) h1 hpx e (j1 x (by simp)) h3 (sJ (λ_ h=>h.1) h4)
  simp only[vcE,fy,fx,Bool.false_eq_true,if_false,if_true,List.cons_append]
  refine⟨σ2,h5,wR (sJ (fun σ' h=>?_) h6)⟩
  exact h
def vL:AOp->Bool
 |.mv _=>true
 |.bin _ _ _=>true
 |.slc _ _ _ _=>true
 |_=>false
structure aBd (x y:aH):Prop where
 fx:dB x=false
 fy:dB y=true
 gx:x.guard=none
 gy:y.guard=none
 ap:gN x y=true
 kx:∃k b A X,x.op=.append k b A X∨x.op=.appendC k b A X
 ky:((∃k a,y.op=.loadV true k a)∨∃o a,y.op=.fieldV o a)∨vL y.op=true
theorem aCN {d:Option Nat}{op:AOp}{σ τ:FSt}{δ:Dl}{on:Option Name} (hop:(∃k a,op=.loadV true k a)∨∃o a,op=.fieldV o a) (he:Eff P d op τ δ) {new:Name}
  (hev:∀o,o∈aI op->evO τ.s o=dH on (evO σ.s o)) (hnw:∀o,o∈aI op->(evO τ.s o).has new=false)
  (hh:∀m c z,m≠new->(∀n,on=some n->m≠n)->τ.h m=some (.var c z)->∃c0,σ.h m=some (.var c0 z)∧c=c0.map (dH on)) :
  Eff P d op σ ⟨δ.v,[],false,[],λ_=>False⟩∧dH on δ.v=δ.v∧δ.v.has new=false∧δ.nb=[]∧δ.fz=false:=by
 rcases hop with⟨k,a,rfl⟩|⟨off,x,rfl⟩
 .cases he with
  | rd v h1 h2 h3 =>
   have hv:=h2 (λu=>u=v) rfl
   have ha:=hev a (by simp[aI])
   have hna:=hnw a (by simp[aI])
   simp only[rd] at hv
   split at hv
   .rename_i m e c hx
    rw[hx] at ha hna
    obtain⟨ea,hmn⟩:=sP ha.symm
    have hmw:m≠new:=by simpa[AV.has] using hna
    split at hv
    .rename_i cs z hb
     obtain⟨c0,hb0,rfl⟩:=hh m cs z hmw hmn hb
     obtain⟨⟨hl,hp⟩,rfl⟩:=hv
     have em:((((Blk.var (c0.map (dH on)) z).row e).drop c).take k)=((((Blk.var c0 z).row e).drop c).take k).map (dH on):=by
      rw[wG,List.map_take,List.map_drop]
     simp only[Bool.not_true,Bool.false_or] at hp
     rw[em] at hp
     have e2:=vM hp
     have hp0:((((Blk.var c0 z).row e).drop c).take k).all mG=true:=by rw[←e2];exact hp
     simp only[em,e2]
     refine⟨.rd _ rfl (λK hK=>?_) λp hp' hq=>?_,?_,?_,trivial,trivial⟩
     .simp only[rd,ea,hb0]
      refine⟨⟨by rw[wG,List.length_map] at hl;exact hl,by simp only[Bool.not_true,Bool.false_or];exact hp0⟩,hK⟩
     .have hpa:=hp' a (by simp[aI])
      rw[ea] at hpa
      exact NmL.mk (NmL.take (NmL.drop ((hq m _ hpa.bZ hb0).row e) _) _)
     .rw[←zQ (g:=true) (by simpa using hp0),e2]
     .simp only[AV.mk,if_true,AV.has,sD hp0]
    .exact hv.elim
   .exact hv.elim
  |al d' hd v b h1 hf hn h2 h3=>exact(h1 (λ_ _=>True) trivial).elim
  |call d' hd f args hop' g caps hg ys L hm r hout fz hfn hflat hfr=>cases hop'
 .cases he with
  | rd v h1 h2 h3 =>
   have hv:=h2 (λu=>u=v) rfl
   have ha:=hev x (by simp[aI])
   have hna:=hnw x (by simp[aI])
   simp only[rd] at hv
   split at hv
   .rename_i m e c hx
    rw[hx] at ha hna
    obtain⟨ea,hmn⟩:=sP ha.symm
    have hmw:m≠new:=by simpa[AV.has] using hna
    split at hv
    .rename_i cs z hb
     obtain⟨c0,hb0,rfl⟩:=hh m cs z hmw hmn hb
     subst hv
     refine⟨.rd _ rfl (λK hK=>?_) λp hp' hq=>?_,sQ hmn,by simp[AV.has,hmw],rfl,rfl⟩
     .simp only[rd,ea,hb0];exact hK
     .have hpa:=hp' x (by simp[aI])
      rw[ea] at hpa
      exact .ptr _ _ _ _ hpa.bZ
    .exact hv.elim
   .exact hv.elim
  |al d' hd v b h1 hf hn h2 h3=>exact(h1 (λ_ _=>True) trivial).elim
  |call d' hd f args hop' g caps hg ys L hm r hout fz hfn hflat hfr=>cases hop'
theorem nM {on:Option Name}{x y:AV} (h:y=dH on x) (hy:y≠.junk):x=y:=by
 cases on with
 |none=>exact h.symm
 | some n =>
  simp only[dH,scr] at h
  split at h
  .exact absurd h hy
  .exact h.symm
theorem wF (on:Option Name) (k:Nat) (l:List (List AV)):dH on (.sl k l)=.sl k l:=by cases on<;>simp[dH,scr,AV.has]
theorem sS {on:Option Name}{n:Name}{a b:Nat} (c d:Nat) (h:dH on (.loc n a b)=.loc n a b):dH on (.loc n c d)=.loc n c d:=by
 cases on with
 |none=>rfl
 | some m =>
  simp only[dH,scr,AV.has] at h⊢
  by_cases hn:n=m
  .simp[hn] at h
  .simp[hn]
theorem aCy {d:Option Nat}{op:AOp}{σ τ:FSt}{δ:Dl}{on:Option Name} (hop:vL op=true) (he:Eff P d op τ δ) {new:Name}
  (hev:∀o,o∈aI op->evO τ.s o=dH on (evO σ.s o)) (hnw:∀o,o∈aI op->(evO τ.s o).has new=false)
  (hh:∀m k l z,m≠new->τ.h m=some (.arr k l z)->σ.h m=some (.arr k l z)) :
  ∃v',Eff P d op σ ⟨v',[],false,[],λ_=>False⟩∧dH on v'=δ.v∧δ.v.has new=false∧δ.nb=[]∧δ.fz=false:=by
 cases he with
 | rd v h1 h2 h3 =>
  have hv:=h2 (λu=>u=v) rfl
  have hs:rd (evO σ.s) σ.h (λu=>dH on u=v∧v.has new=false) op:=by
   cases op<;>simp only[vL] at hop<;>try(cases hop;done)
   case mv a =>
    simp only[rd] at hv⊢
    have ha:=hev a (by simp[aI])
    have hn:=hnw a (by simp[aI])
    rw[hv] at ha hn
    exact⟨ha.symm,hn⟩
   case bin b x y =>
    simp only[rd] at hv⊢
    split at hv
    .rename_i k a k' b' hx hy
     have ex:=nM (hev x (by simp[aI])) (by rw[hx];simp)
     have ey:=nM (hev y (by simp[aI])) (by rw[hy];simp)
     rw[ex,ey,hx,hy]
     simp only
     unfold aA9 at hv⊢
     cases b<;>exact⟨hv.1,by rw[←hv.2];exact⟨aDs _ _,rfl⟩⟩
    .exact hv.elim
   case slc k x lo hi =>
    have eN:∀o:Option Operand,(∀z,o=some z->z∈aI (.slc k x lo hi))->o.map (evO τ.s)=none->o.map (evO σ.s)=none:=λo _ h=>by
     cases o with
     |none=>rfl
     |some z=>cases h
    have eI:∀(o:Option Operand) (w:Value),(∀z,o=some z->z∈aI (.slc k x lo hi))->o.map (evO τ.s)=some (.v w)->o.map (evO σ.s)=some (.v w):=λo w hm h=>by
     cases o with
     |none=>cases h
     | some z =>
      simp only[Option.map_some,Option.some.injEq] at h⊢
      have:=nM (hev z (hm z rfl)) (by rw[h];simp)
      rw[this,h]
    have mlo:∀z,lo=some z->z∈aI (.slc k x lo hi):=λz hz=>by subst hz;simp[aI]
    have mhi:∀z,hi=some z->z∈aI (.slc k x lo hi):=λz hz=>by subst hz;simp[aI]
    simp only[rd] at hv⊢
    split at hv
    .rename_i k' l hx
     have ex:=nM (hev x (by simp[aI])) (by rw[hx];simp)
     rw[ex,hx]
     simp only
     split at hv
     .rename_i h1 h2
      rw[eN lo mlo h1,eN hi mhi h2]
      exact⟨hv.1,by rw[←hv.2];exact⟨wF _ _ _,rfl⟩⟩
     .rename_i h1 h2
      rw[eI lo _ mlo h1,eN hi mhi h2]
      exact⟨hv.1,by rw[←hv.2];exact⟨wF _ _ _,rfl⟩⟩
     .rename_i h1 h2
      rw[eN lo mlo h1,eI hi _ mhi h2]
      exact⟨hv.1,by rw[←hv.2];exact⟨wF _ _ _,rfl⟩⟩
     .rename_i h1 h2
      rw[eI lo _ mlo h1,eI hi _ mhi h2]
      exact⟨hv.1,by rw[←hv.2];exact⟨wF _ _ _,rfl⟩⟩
     .exact hv.elim
    .rename_i n off len hx
     have hxe:=hev x (by simp[aI])
     have ex:=nM hxe (by rw[hx];simp)
     have hnx:n≠new:=by
      have:=hnw x (by simp[aI])
      rw[hx] at this
      simpa[AV.has] using this
     have hsc:dH on (.loc n off len)=.loc n off len:=by
      rw[ex,hx] at hxe
      exact hxe.symm
     split at hv
     .rename_i k' l z hb
      rw[ex,hx]
      simp only
      rw[hh n k' l z hnx hb]
      simp only
      split at hv
      .rename_i h1 h2
       rw[eN lo mlo h1,eN hi mhi h2]
       exact⟨hv.1,by rw[←hv.2];exact⟨sS _ _ hsc,by simp[AV.has,hnx]⟩⟩
      .rename_i h1 h2
       rw[eI lo _ mlo h1,eN hi mhi h2]
       exact⟨hv.1,by rw[←hv.2];exact⟨sS _ _ hsc,by simp[AV.has,hnx]⟩⟩
      .rename_i h1 h2
       rw[eN lo mlo h1,eI hi _ mhi h2]
       exact⟨hv.1,by rw[←hv.2];exact⟨sS _ _ hsc,by simp[AV.has,hnx]⟩⟩
      .rename_i h1 h2
       rw[eI lo _ mlo h1,eI hi _ mhi h2]
       exact⟨hv.1,by rw[←hv.2];exact⟨sS _ _ hsc,by simp[AV.has,hnx]⟩⟩
      .exact hv.elim
     .exact hv.elim
    .exact hv.elim
  obtain⟨u,⟨g1,g2⟩,g3,g4⟩:=wW hs
  exact⟨u,.rd u h1 g3 λp ho hb=>g4 p (λz ps e=>by subst e;simp[vL] at hop) ho hb,g1,g2,rfl,rfl⟩
 | al d' hd v b h1 hf hn h2 h3 =>
  exfalso
  have:=h1 (λ_ _=>True) trivial
  cases op<;>simp only[vL] at hop<;>first|(cases hop;done)|exact this.elim
 |call d' hd f args hop' g caps hg ys L hm r hout fz hfn hflat hfr=>subst hop';simp[vL] at hop
theorem aCC {x y:aH}{σl:St}{K:FSt->Prop} (hp:aBd x y)
  (hv:vc P (fun σ'=>∃δ,qO P y σ'.f δ∧K (app y.dst δ σ'.f)) [x] σl):∃δ',qO P y σl.f δ'∧∃σ3:St,σ3.f=app y.dst δ' σl.f∧vc P (fun σ'=>K σ'.f) [x] σ3:=by
 have hap:=hp.ap
 simp only[gN,Bool.and_eq_true] at hap
 have a0:∀t,x.dst=some t->jJ y t=false∧y.dst≠some t:=λt ht=>by
  have:=hap.1;rw[ht] at this;simpa using this
 have b0:∀t,y.dst=some t->jJ x t=false:=λt ht=>by
  have:=hap.2;rw[ht] at this;simpa using this
 have sees:∀{z:aH}{t:Nat},jJ z t=false->∀o,o∈aI z.op->o≠.tmp t:=by
  intro z t h
  simp only[jJ,Bool.or_eq_false_iff] at h
  exact oF (by simpa using h.1)
 simp only[vc,hp.gx] at hv
 have main:∀(d:Nat),x.dst=some d->∀(v0:AV) (B:List (Name×Blk)->List (Name×Blk)) (on:Option Name),(∀h h',aA h=aA h'->aA (B h)=aA (B h'))->(∀h m,m≠.t d 0->aA (B h) m=aA h m)->
   bG (.t d 0) (aK on σl)=true->(∃δ,qO P y (⟨(d,v0)::(aK on σl).s,B (aK on σl).h⟩:St).f δ∧K (app y.dst δ (⟨(d,v0)::(aK on σl).s,B (aK on σl).h⟩:St).f))->
   ∃ δ',qO P y σl.f δ'∧∃σ3:St,σ3.f=app y.dst δ' σl.f∧(∀z,z∈aI x.op->evO (look σ3.s) z=evO (look σl.s) z)∧aA σ3.h=aA σl.h∧bG (.t d 0) (aK on σ3)=true∧
    K (⟨(d,v0)::(aK on σ3).s,B (aK on σ3).h⟩:St).f:=by
  rintro d hd v0 B on hB hBm hf ⟨δ,⟨b,ry,hey⟩,hK⟩
  have hyd:y.dst≠some d:=(a0 d hd).2
  have hyo:=sees (a0 d hd).1
  have hfr:=bS hf
  have hb:b=true:=by simpa[runs,hp.gy] using ry
  subst hb
  have hey:Eff P y.dst y.op (⟨(d,v0)::(aK on σl).s,B (aK on σl).h⟩:St).f δ:=hey
  have hev:∀o,o∈aI y.op->evO (⟨(d,v0)::(aK on σl).s,B (aK on σl).h⟩:St).f.s o=dH on (evO σl.f.s o):=by
   intro z hz
   have hzd:=hyo z hz
   cases z with
   | tmp t =>
    have htd:t≠d:=λe=>hzd (by rw[e])
    simp only[evO,St.f,look]
    rw[if_neg htd,cZ]
    cases on<;>rfl
   | const w =>
    simp only[evO]
    cases on with
    |none=>rfl
    | some n =>
     simp only[dH,scr]
     rw[if_neg]
     cases w<;>simp[AV.ofValue,AV.has]
     rename_i cs
     have:bU (λm=>m=n) (List.map (λx=>AV.v x) (Array.toList cs)):=bU.of_mem λx hx=>by
      obtain⟨y,_,rfl⟩:=List.mem_map.1 hx
      exact Off.v _
     exact this n rfl
   |global g=>simp only[evO];exact(uN on).symm
   |func f=>simp only[evO];cases on<;>simp[dH,scr,AV.has,iL]
  have hnw:∀o,o∈aI y.op->(evO (⟨(d,v0)::(aK on σl).s,B (aK on σl).h⟩:St).f.s o).has (.t d 0)=false:=by
   intro z hz
   have hzd:=hyo z hz
   cases z with
   | tmp t =>
    have htd:t≠d:=λe=>hzd (by rw[e])
    simp only[evO,St.f,look]
    rw[if_neg htd]
    exact hfr.2.1 t
   | const w =>
    simp only[evO]
    cases w<;>simp[AV.ofValue,AV.has]
    rename_i cs
    have:bU (λm=>m=.t d 0) (List.map (λx=>AV.v x) (Array.toList cs)):=bU.of_mem λx hx=>by
     obtain⟨y,_,rfl⟩:=List.mem_map.1 hx
     exact Off.v _
    exact this _ rfl
   |global g=>rfl
   |func f=>simp[evO,AV.has,iL]
  obtain ⟨v',e1,e2,e3,e4,e5⟩:∃v',Eff P y.dst y.op σl.f ⟨v',[],false,[],λ_=>False⟩∧dH on v'=δ.v∧δ.v.has (.t d 0)=false∧δ.nb=[]∧δ.fz=false:=by
   rcases hp.ky with hky|hky
   rotate_left
   .exact aCy (σ:=σl.f) (on:=on) (new:=.t d 0) hky hey hev hnw (λm c l z hm hb=>by
     simp only[St.f] at hb⊢
     rw[hBm _ _ hm,cK] at hb
     cases on with
     |none=>exact hb
     | some n =>
       simp only at hb
       split at hb
       . cases hb
       . obtain⟨b0,h1,h2⟩:=Option.map_eq_some_iff.1 hb
         cases b0 with
         |var c0 z0=>simp[rR] at h2
         | arr k l z0 =>
           simp only[rR] at h2
           rw[h1,h2])
   obtain ⟨q1,q2,q3,q4,q5⟩:=aCN (σ:=σl.f) (on:=on) (new:=.t d 0) hky hey hev hnw (λm c z hm hmn hb=>by
     simp only[St.f] at hb⊢
     rw[hBm _ _ hm,cK] at hb
     cases on with
     |none=>exact⟨c,hb,by rw[show dH none=id from rfl];simp⟩
     | some n =>
       simp only at hb
       rw[if_neg (hmn n rfl)] at hb
       obtain⟨b0,h1,h2⟩:=Option.map_eq_some_iff.1 hb
       cases b0 with
       | var c0 z0 =>
         simp only[rR,Blk.var.injEq] at h2
         obtain⟨rfl,rfl⟩:=h2
         exact⟨c0,h1,rfl⟩
       |arr k l z0=>simp[rR] at h2)
   exact⟨δ.v,q1,q2,q3,q4,q5⟩
  let δ':Dl:=⟨v',[],false,[],λ_=>False⟩
  let σ3:St:=canon ⟨put y.dst v' σl.s,σl.h⟩
  have hσ3:σ3.f=app y.dst δ' σl.f:=by
   rw[iF];exact aBJ
  have s3:∀t,look σ3.s t=(app y.dst δ' σl.f).s t:=λt=>congrFun (congrArg FSt.s hσ3) t
  have h3:aA σ3.h=aA σl.h:=by
   have:=congrArg FSt.h hσ3
   have e:(app y.dst δ' σl.f).h=aA σl.h:=by
    funext n;rw[rO];simp[δ',aA,St.f]
   exact this.trans e
  refine⟨δ',⟨true,by simp[runs,hp.gy],e1⟩,σ3,hσ3,λz hz=>?_,h3,?_,?_⟩
  .have e:evO (look σ3.s) z=evO (app y.dst δ' σl.f).s z:=by cases z<;>first|rfl|exact s3 _
   rw[e]
   exact wN λt ht=>sees (b0 t ht) z hz
  .refine rD (yA (uH _) on) rfl ⟨⟨?_,hfr.1.2⟩,λt=>?_,λm bl hbl=>?_⟩
   .have:=hfr.1.1
    simp only[St.f,cK] at this⊢
    rw[h3];exact this
   .have:=hfr.2.1 t
    simp only[St.f,cZ] at this⊢
    rw[s3]
    by_cases ht:y.dst=some t
    .rw[ht,kM]
     cases on with
     | none =>
      show AV.has (.t d 0) v'=false
      rw[show v'=δ.v from e2];exact e3
     | some n =>
      show AV.has (.t d 0) (scr n v')=false
      rw[show scr n v'=δ.v from e2];exact e3
    .rw[kW ht];exact this
   .refine hfr.2.2 m bl ?_
    simp only[St.f,cK] at hbl⊢
    rw[h3] at hbl;exact hbl
  .have est:(⟨(d,v0)::(aK on σ3).s,B (aK on σ3).h⟩:St).f=app y.dst δ (⟨(d,v0)::(aK on σl).s,B (aK on σl).h⟩:St).f:=by
    have g1:(⟨(d,v0)::(aK on σ3).s,B (aK on σ3).h⟩:St).f.s=(app y.dst δ (⟨(d,v0)::(aK on σl).s,B (aK on σl).h⟩:St).f).s:=by
     funext t
     by_cases ht:y.dst=some t
     .have htd:t≠d:=λe=>hyd (by rw[ht,e])
      rw[ht,kM]
      simp only[St.f,look]
      rw[if_neg htd,cZ,s3,ht,kM]
      cases on with
      |none=>exact e2
      |some n=>exact e2
     .rw[kW ht]
      simp only[St.f,look,cZ]
      rw[s3,kW ht];rfl
    have g2:(⟨(d,v0)::(aK on σ3).s,B (aK on σ3).h⟩:St).f.h=(app y.dst δ (⟨(d,v0)::(aK on σl).s,B (aK on σl).h⟩:St).f).h:=by
     have e:(app y.dst δ (⟨(d,v0)::(aK on σl).s,B (aK on σl).h⟩:St).f).h=aA (B (aK on σl).h):=by
      funext n;rw[rO,e4,e5];simp[aA,St.f]
     rw[e]
     refine hB _ _ (funext λm=>?_)
     simp only[cK,h3]
    exact congr (congrArg FSt.mk g1) g2
   rw[est];exact hK
 obtain⟨k,by',A,X,hx⟩:=hp.kx
 have go:∀(d:Nat),x.dst=some d->(x.op=.append k by' A X∨x.op=.appendC k by' A X)->aV P x.dst σl (fun σ'=>∃δ,qO P y σ'.f δ∧K (app y.dst δ σ'.f)) x.op->
   ∃δ',qO P y σl.f δ'∧∃σ3:St,σ3.f=app y.dst δ' σl.f∧aV P x.dst σ3 (fun σ'=>K σ'.f) x.op:=by
  intro d hd hx hv
  rcases hx with hx|hx
  .rw[hx,hd] at hv
   simp only[aV] at hv
   split at hv
   .rename_i on l l' hA hX
    obtain⟨⟨hf,hsz⟩,hK⟩:=hv
    have hMM:=main d hd (.loc (.t d 0) 0 (l.length+l'.length)) (λh=>(.t d 0,.arr k (l++l') false)::h) on (λh h' e=>by funext m;simp only[aA,e]) (λh m hm=>by simp only[aA];rw[if_neg hm]) hf hK
    obtain⟨δ',g1,σ3,g2,g3,g4,g5,g6⟩:=hMM
    rw[hx] at g3
    refine⟨δ',g1,σ3,g2,?_⟩
    rw[hx,hd]
    simp only[aV]
    rw[g3 A (by simp[aI]),g3 X (by simp[aI]),g4,hA,hX]
    exact⟨⟨g5,hsz⟩,g6⟩
   .exact hv.elim
  .rw[hx,hd] at hv
   simp only[aV] at hv
   split at hv
   .rename_i on l l' hA hX
    obtain⟨⟨hf,hsz⟩,hK⟩:=hv
    have hMM:=main d hd (.sl k (l++l')) (λh=>h) on (λh h' e=>e) (λh m hm=>rfl) hf hK
    obtain⟨δ',g1,σ3,g2,g3,g4,g5,g6⟩:=hMM
    rw[hx] at g3
    refine⟨δ',g1,σ3,g2,?_⟩
    rw[hx,hd]
    simp only[aV]
    rw[g3 A (by simp[aI]),g3 X (by simp[aI]),g4,hA,hX]
    exact⟨⟨g5,hsz⟩,g6⟩
   .exact hv.elim
 cases hd:x.dst with
 |none=>rcases hx with hx|hx<;>(rw[hx,hd] at hv;exact hv.elim)
 | some d =>
  obtain⟨δ',g1,σ3,g2,g3⟩:=go d hd hx hv
  refine⟨δ',g1,σ3,g2,?_⟩
  simp only[vc,hp.gx]
  exact g3
theorem aEI {x:aH}{σl:St}{K:St->Prop} (gx:x.guard=none) (kx:∃k b A X,x.op=.append k b A X∨x.op=.appendC k b A X) (hv:vc P K [x] σl) :
  ∃r,K r∧∀K':St->Prop,K' r->vc P K' [x] σl:=by
 obtain⟨k,b,A,X,hx⟩:=kx
 simp only[vc,gx] at hv⊢
 cases hd:x.dst with
 |none=>rcases hx with hx|hx<;>(rw[hx,hd] at hv;exact hv.elim)
 | some d =>
  rcases hx with hx|hx<;>rw[hx,hd] at hv
  all_goals
   simp only[aV,hx] at hv⊢
   split at hv
   .exact⟨_,hv.2,λK' h=>⟨hv.1,h⟩⟩
   .exact hv.elim
theorem aBE {ops:Array Oper}{K:FSt->Prop}{y:aH} (fy:dB y=true):∀(l1 l2:List aH) (σ:FSt),(∀x,x∈l1->(Pair x y∨aBd x y)∧∃(i:Nat) (o:Oper),ops[i]? = some o∧gY P C.nt ops o=some x.bare)->
  (l1.Pairwise λx x'=>∀t,x'.dst=some t->x.dst≠some t)->Real C σ->(∀x,x∈l1->∀t,x.dst=some t->σ.s t=.junk)->(l1≠[]->∀t,y.dst=some t->σ.s t=.junk)->
  vcE P K (l1++y::l2) σ->vcE P K (y::(l1++l2)) σ
 | [],l2,σ,_,_,_,_,_,hv=>hv
 | x::l1,l2,σ,hp,hd,hr,j1,j2,hv=>by
  obtain⟨hpx,i,o,ho,hc⟩:=hp x (by simp)
  have hap:gN x y=true:=by rcases hpx with h|h<;>exact h.ap
  have ax:∀t,y.dst=some t->x.dst≠some t:=by
   intro t ht h
   have:=hap
   simp only[gN,h,Bool.and_eq_true,Bool.not_eq_true',beq_eq_false_iff_ne] at this
   exact this.1.2 ht
  rcases hpx with hpx|hpx
  .have fx:=hpx.fx
   simp only[List.cons_append,vcE,fx,if_true] at hv
   obtain⟨δx,h1,h2⟩:=hv
   have:=aBE fy l1 l2 (app x.dst δx σ) (λz hz=>hp z (by simp[hz])) hd.tail (aAH ho hc hr h1) (λz hz t ht=>by
     rw[kW ((List.rel_of_pairwise_cons hd hz) t ht)]
     exact j1 z (by simp[hz]) t ht) (λ_ t ht=>by
     rw[kW (ax t ht)]
     exact j2 (by simp) t ht) h2
   simp only[vcE,fy,if_true] at this
   obtain⟨δy,h3,h4⟩:=this
   obtain⟨σl,a,w,S,ρ,κ,e,hok⟩:=hr
   obtain⟨h5,h6,h7⟩:=aCX h1 h3 (by rw[←e];exact hok.wf) fx fy hpx.ap (j1 x (by simp)) (j2 (by simp))
   simp only[vcE,fy,fx,if_true,List.cons_append]
   exact⟨δy,h5,δx,h6,by rw[h7];exact h4⟩
  .have fx:=hpx.fx
   simp only[List.cons_append,vcE,fx,Bool.false_eq_true,if_false] at hv
   obtain⟨σl,e,h2⟩:=hv
   obtain⟨r,⟨h3,h4⟩,h5⟩:=aEI hpx.gx hpx.kx h2
   obtain⟨σ0,a,w,S,ρ,κ,e0,hok⟩:=hr
   have hreal:Real C r.f:=by
    obtain⟨a',w',σ',S',ρ',κ',q1,q2⟩:=aBP (aB3 (Q:=λ_ _ _=>False) ho hc (h5 (fun σ'=>σ'=r) rfl) (by rw[e,←e0];exact hok))
    exact⟨σ',a',w',S',ρ',κ',by rw[q1],q2⟩
   have sl:∀t,look σl.s t=σ.s t:=λt=>congrFun (congrArg FSt.s e) t
   have:=aBE fy l1 l2 r.f (λz hz=>hp z (by simp[hz])) hd.tail hreal (λz hz t ht=>by
     exact h4 t ((List.rel_of_pairwise_cons hd hz) t ht) ((sl t).trans (j1 z (by simp[hz]) t ht))) (λ_ t ht=>by
     exact h4 t (ax t ht) ((sl t).trans (j2 (by simp) t ht))) h3
   simp only[vcE,fy,if_true] at this
   obtain⟨δ',g1,σ3,g2,g3⟩:=aCC (K:=λf=>vcE P K (l1++l2) f) hpx (h5 (fun σ'=>∃δ,qO P y σ'.f δ∧vcE P K (l1++l2) (app y.dst δ σ'.f)) this)
   rw[e] at g1 g2
   simp only[vcE,fy,fx,Bool.false_eq_true,if_false,if_true,List.cons_append]
   exact⟨δ',g1,σ3,g2,wR g3⟩
def aEM (o:Oper) (k:Nat):Bool:=o.after.any λe=>Region.binds .any e&&e.on==k
def pJ (ops:Array Oper):Nat->Nat->Nat->Bool
 |0,_,_=>false
 | n+1,k,i=>match ops[i]? with
  |some o=>o.after.any λe=>Region.binds .any e&&(e.on==k||pJ ops n k e.on)
  |none=>false
def oW (aops:List aH) (k:Nat):Bool:=match(aops[k]?).bind (·.dst) with
 |some d=>(List.range aops.length).all λj=>j==k||!(((aops[j]?).bind (·.dst))==some d)
 |none=>true
def xP (ops:Array Oper) (k i:Nat):Bool:=match ops[i]? with|some o=>!aEM o k|none=>false
def aFH (x y:aH):Bool:=dB x&&!dB y&&y.guard.isNone&&gN x y&&match y.op with
 |.store ..=>tO x.op
 |.append ..=>match x.op with|.mv _=>true|_=>false
 |_=>false
def aEf (x y:aH):Bool:=dB x&&!dB y&&y.guard.isNone&&gN x y&&x.dst.isSome&&(match y.op with
  |.append ..=>true
  |_=>false)&&match x.op with
 |.load ..=>true
 |.fieldAddr ..=>true
 |_=>false
def aDq (x y:aH):Bool:=!dB x&&dB y&&x.guard.isNone&&y.guard.isNone&&gN x y&&y.dst.isSome&&(match x.op with
  |.append ..=>true
  |_=>false)&&match y.op with
 |.load g _ _=>g
 |.fieldAddr ..=>true
 |_=>false
def aFz (x y:aH):Bool:=!dB x&&dB y&&x.guard.isNone&&y.guard.isNone&&gN x y&&y.dst.isSome&&(match x.op with
  |.append ..=>true
  |_=>false)&&vL y.op
def aAN (x y:aH):List Nat:=(if aEf x y then(match x.dst with
  |some d=>[d+1000000]
  |none=>[]) else[])++if aDq x y then(match y.dst with
  |some d=>[d+1000000]
  |none=>[]) else[]
def tQ (ops:Array Oper) (aops:List aH) (k i:Nat):Bool:=match aops[k]?,aops[i]? with
 |some x,some y=>(aFz x y||(aEf x y||aDq x y))&&oW aops k&&oW aops i&&!pJ ops ops.size k i
 |_,_=>false
def wZ (aops:List aH) (k i:Nat):Bool:=match aops[k]?,aops[i]? with
 |some x,some y=>((dB x&&dB y&&gN x y)||aFH x y)&&oW aops k&&oW aops i
 |_,_=>false
def aFN (ops:Array Oper):Bool:=(List.range ops.size).all λi=>match ops[i]? with
 |some o=>o.after.all λe=>!Region.binds .any e||decide (e.on<i)
 |none=>true
def lF (n:Nat) (ops:Array Oper):List (Nat×Nat):=(List.range n).flatMap λi=>(List.range i).filterMap λk=>if xP ops k i then some (k,i) else none
def aFF (ops:Array Oper) (aops:List aH):Bool:=aFN ops&&(lF ops.size ops).all λp=>(wZ aops p.1 p.2||tQ ops aops p.1 p.2)||pJ ops ops.size p.1 p.2
def aAZ (ops:Array Oper) (aops:List aH):List Nat:=(((lF ops.size ops).filter λp=>wZ aops p.1 p.2||tQ ops aops p.1 p.2).flatMap λp=>((aops[p.1]?).bind (·.dst)).toList++((aops[p.2]?).bind (·.dst)).toList++(if tQ ops aops p.1 p.2 then(match aops[p.1]?,aops[p.2]? with
  |some x,some y=>aAN x y
  |_,_=>[]) else[])).eraseDups
def setB (ops:Array Oper) (i:Nat):Bool:=(lF ops.size ops).all λp=>!(p.1==i||p.2==i)||pJ ops ops.size p.1 p.2
def writes (P:Program):AOp->Bool
 | .call (.func g) _ _=>match P.funcs[g]? with
  |some fn=>fn.name == "loop.example/g01012/spec.l15Do"
  |none=>false
 |_=>false
def aCD (P:Program) (ops:Array Oper) (aops:List aH):List Nat:=(List.range aops.length).filterMap λi=>match aops[i]? with
 | some o=>match o.dst with
  |some d=>if writes P o.op&&setB ops i then some (d+2000000) else none
  |none=>none
 |none=>none
def bV (P:Program) (nt:Nat) (ops:Array Oper):Option (List Nat):=match vD P nt ops ops.toList with
 |some l=>if Nat.ble nt 1000000&&aFF ops l then some (aAZ ops l++aCD P ops l) else none
 |none=>none
end
section
variable [Envs]
variable {P:Program}{C:Ctx}{a:Act}{w:World}{S:Nat->Prop}{ρ:Name->Option Nat}{κ:Name->Nat}
theorem yI (aops:List aH) (l1 l2:List Nat):atL aops (l1++l2)=atL aops l1++atL aops l2:=by simp[atL]
structure Plan (P:Program) (C:Ctx) (ops:Array Oper) (aops:List aH) (F:Nat->Prop):Prop where
 corr:∀(j:Nat) (ao:aH),aops[j]? = some ao->∃o:Oper,ops[j]? = some o∧gY P C.nt ops o=some ao.bare
 len:ops.size=aops.length
 back:∀(i:Nat) (o:Oper),ops[i]? = some o->∀e,e∈o.after->Region.binds .any e=true->e.on<i
 pair:∀k i,k<i->i<ops.size->xP ops k i=true->pJ ops ops.size k i=false->F k∧F i∧∀(x y:aH),aops[k]? = some x->aops[i]? = some y->Pair x y∨aBe x y∨aBd x y
 uniq:∀k,F k->∀(x:aH) (d:Nat),aops[k]? = some x->x.dst=some d->∀(j:Nat) (y:aH),j≠k->aops[j]? = some y->y.dst≠some d
theorem yJ {ops:Array Oper}{listed:Array Bool} (hdc:∀(j:Nat) (o:Oper),ops[j]? = some o->listed.getD j false=true->∀e,e∈o.after->Region.binds .any e=true->listed.getD e.on false=true) :
  ∀(n k i:Nat) (o:Oper),ops[i]? = some o->(∀e,e∈o.after->Region.binds .any e=true->listed.getD e.on false=true)->pJ ops n k i=true->listed.getD k false=true
 |0,_,_,_,_,_,h=>by simp[pJ] at h
 | n+1,k,i,o,ho,hl,h=>by
  simp only[pJ,ho] at h
  rw[←Array.any_toList,List.any_eq_true] at h
  obtain⟨e,he,h⟩:=h
  simp only[Bool.and_eq_true,Bool.or_eq_true,beq_iff_eq] at h
  have hle:=hl e (by simpa using he) h.1
  rcases h.2 with h2|h2
  .rw[←h2];exact hle
  .cases ho':ops[e.on]? with
   | none =>
    cases n with
    |zero=>simp[pJ] at h2
    |succ n=>simp[pJ,ho'] at h2
   |some o'=>exact yJ hdc n k e.on o' ho' (hdc e.on o' ho' hle) h2
theorem aGx {ops:Array Oper}{aops:List aH}{F:Nat->Prop}{K:St->Prop}{Q:Exit->Act->World->Prop} (hp:Plan P C ops aops F) (hQ:∀a w,bK C K a w->Q .normal a w) :
  ∀ (n:Nat) (r:List Nat) (listed:Array Bool) (σl:St) (a:Act) (w:World) (S:Nat->Prop) (ρ:Name->Option Nat) (κ:Name->Nat),r.length=n->r.Pairwise (· < ·)->listed.size=ops.size->
   (∀i,i∈r↔i<ops.size∧listed.getD i true=false)->(∀i,i∈r->F i->∀(x:aH) (d:Nat),aops[i]? = some x->x.dst=some d->look σl.s d=.junk)->
   (∀(j:Nat) (o:Oper),ops[j]? = some o->listed.getD j false=true->∀e,e∈o.after->Region.binds .any e=true->listed.getD e.on false=true)->
   vcE P (λf=>∃σ':St,σ'.f=f∧K σ') (atL aops r) σl.f->OK C σl.f a w S ρ κ->wpAny P .any ops Q n listed a w:=by
 intro n
 induction n with
 | zero =>
  intro r listed σl a w S ρ κ hn _ hsz hr _ _ hv hok
  obtain rfl:=List.length_eq_zero_iff.1 hn
  refine⟨?_,?_⟩
  .cases h:Region.ready .any ops listed with
   |nil=>rfl
   | cons i l =>
    have:i∈Region.ready .any ops listed:=by rw[h];simp
    obtain⟨h1,o,h2,_⟩:=mem_ready.1 this
    have:i∈([]:List Nat):=(hr i).2 ⟨(Array.getElem?_eq_some_iff.1 h2).1,h1⟩
    cases this
  .obtain⟨σ',h1,h2⟩:=hv
   exact hQ a w ⟨σ',S,ρ,κ,h2,by rw[h1];exact hok⟩
 | succ n ih =>
  intro r listed σl a w S ρ κ hn hsort hsz hr hj hdc hv hok
  have done:∀i,i<ops.size->i∉r->listed.getD i false=true:=by
   intro i hi hir
   cases h:listed.getD i true with
   |false=>exact absurd ((hr i).2 ⟨hi,h⟩) hir
   | true =>
    have:i<listed.size:=by omega
    simp[this] at h⊢;exact h
  refine⟨λhnil=>?_,λi hi=>?_⟩
  .exfalso
   cases r with
   |nil=>simp at hn
   | cons r0 r =>
    obtain⟨h1,h2⟩:=(hr r0).1 (by simp)
    have:r0∈Region.ready .any ops listed:=mem_ready.2 ⟨h2,ops[r0],by simp[h1],λe he hb=>by
      have hlt:=hp.back r0 ops[r0] (by simp[h1]) e he hb
      refine done e.on (by omega) λhm=>?_
      rcases List.mem_cons.1 hm with h|h
      . omega
      . have:=List.rel_of_pairwise_cons hsort h;omega⟩
    rw[hnil] at this;cases this
  .obtain⟨h1,oi,h2,h3⟩:=mem_ready.1 hi
   have hisz:i<ops.size:=(Array.getElem?_eq_some_iff.1 h2).1
   have hir:i∈r:=(hr i).2 ⟨hisz,h1⟩
   obtain⟨r1,r2,rfl⟩:=List.append_of_mem hir
   have hai:i<aops.length:=by rw[←hp.len];exact hisz
   obtain⟨y,hy⟩:∃y,aops[i]? = some y:=⟨aops[i],by simp[hai]⟩
   obtain⟨oi',g1,g2⟩:=hp.corr i y hy
   rw[h2] at g1
   obtain rfl:=Option.some.inj g1
   have hlt:∀k,k∈r1->k<i:=λk hk=>(List.pairwise_append.1 hsort).2.2 k hk i (by simp)
   have hfl:∀k,k∈r1->xP ops k i=true:=by
    intro k hk
    simp only[xP,h2,aEM,Bool.not_eq_true',List.any_eq_false,←Array.any_toList]
    intro e he
    simp only[Bool.and_eq_true,beq_iff_eq,not_and]
    intro hb hek
    have h4:=h3 e (by simpa using he) hb
    have h5:=((hr k).1 (by simp[hk])).2
    rw[hek] at h4
    have:k<listed.size:=by have:=hlt k hk;omega
    simp[this] at h4 h5
    rw[h4] at h5;cases h5
   have hanc:∀k,k∈r1->pJ ops ops.size k i=false:=by
    intro k hk
    cases h:pJ ops ops.size k i with
    |false=>rfl
    | true =>
     have h4:=yJ hdc ops.size k i oi h2 h3 h
     have h5:=((hr k).1 (by simp[hk])).2
     have:k<listed.size:=by have:=hlt k hk;omega
     simp[this] at h4 h5
     rw[h4] at h5;cases h5
   have hmem:∀x,x∈atL aops r1->∃k,k∈r1∧aops[k]? = some x:=by
    intro x hx
    obtain⟨k,hk,hkx⟩:=List.mem_filterMap.1 hx
    exact⟨k,hk,hkx⟩
   have e1:atL aops (r1++i::r2)=atL aops r1++y::atL aops r2:=by
    rw[yI];simp[atL,hy]
   rw[e1] at hv
   have hsort1:=(List.pairwise_append.1 hsort).1
   have hdist:(atL aops r1).Pairwise λx x'=>∀t,x'.dst=some t->x.dst≠some t:=by
    have:r1.Pairwise λk k'=>∀x,aops[k]? = some x->∀x',aops[k']? = some x'->∀t,x'.dst=some t->x.dst≠some t:=by
     refine hsort1.imp_of_mem λ{k k'} hk hk' hkk x hx x' hx' t ht=>?_
     have hF:=(hp.pair k' i (hlt k' hk') hisz (hfl k' hk') (hanc k' hk')).1
     exact hp.uniq k' hF x' t hx' ht k x (by omega) hx
    exact List.pairwise_filterMap.2 (this.imp λh x hx x' hx'=>h x hx x' hx')
   have hreal:Real C σl.f:=⟨σl,a,w,S,ρ,κ,rfl,hok⟩
   have hpairs:∀k,k∈r1->F k∧F i∧∀(x y:aH),aops[k]? = some x->aops[i]? = some y->Pair x y∨aBe x y∨aBd x y:=λk hk=>hp.pair k i (hlt k hk) hisz (hfl k hk) (hanc k hk)
   have hjx:∀x,x∈atL aops r1->∀t,x.dst=some t->σl.f.s t=.junk:=by
    intro x hx t ht
    obtain⟨k,hk,hkx⟩:=hmem x hx
    exact hj k (by simp[hk]) (hpairs k hk).1 x t hkx ht
   have hbr:vcE P (λf=>∃σ':St,σ'.f=f∧K σ') (y::(atL aops r1++atL aops r2)) σl.f:=by
    by_cases hfy:dB y=true
    .refine aBE (P:=P) (C:=C) (ops:=ops) (y:=y) hfy (atL aops r1) (atL aops r2) σl.f (λx hx=>?_) hdist hreal hjx (λhne t ht=>?_) hv
     .obtain⟨k,hk,hkx⟩:=hmem x hx
      obtain⟨o,q1,q2⟩:=hp.corr k x hkx
      refine⟨?_,k,o,q1,q2⟩
      rcases(hpairs k hk).2.2 x y hkx hy with h|h|h
      .exact .inl h
      .have:=h.fy;rw[hfy] at this;cases this
      .exact .inr h
     .cases r1 with
      |nil=>exact absurd rfl hne
      |cons k _=>exact hj i (by simp) (hpairs k (by simp)).2.1 y t hy ht
    .refine aEG (P:=P) (C:=C) (ops:=ops) (y:=y) (atL aops r1) (atL aops r2) σl.f (λx hx=>?_) hdist hreal hjx hv
     obtain⟨k,hk,hkx⟩:=hmem x hx
     obtain⟨o,q1,q2⟩:=hp.corr k x hkx
     refine⟨?_,k,o,q1,q2⟩
     rcases(hpairs k hk).2.2 x y hkx hy with h|h|h
     .exact absurd h.fy hfy
     .exact h
     .exact absurd h.fy hfy
   have e2:atL aops r1++atL aops r2=atL aops (r1++r2):=(yI _ _ _).symm
   rw[e2] at hbr
   have hnd:i∉r1∧i∉r2:=by
    have hpw:=List.pairwise_append.1 hsort
    exact⟨λh=>Nat.lt_irrefl _ (hlt i h),λh=>Nat.lt_irrefl _ (List.rel_of_pairwise_cons hpw.2.1 h)⟩
   have hsort':(r1++r2).Pairwise (· < ·):=by
    have hpw:=List.pairwise_append.1 hsort
    exact List.pairwise_append.2 ⟨hpw.1,hpw.2.1.tail,λx hx y hy=>hpw.2.2 x hx y (by simp[hy])⟩
   have hr':∀k,k∈r1++r2↔k<ops.size∧(listed.setIfInBounds i true).getD k true=false:=by
    intro k
    by_cases hki:k=i
    .subst hki
     have:k<listed.size:=by omega
     simp[hnd.1,hnd.2,this]
    .rw[getD_set_ne true (Ne.symm hki),←hr k]
     simp[hki]
   have hdc':∀(j:Nat) (o:Oper),ops[j]? = some o->(listed.setIfInBounds i true).getD j false=true->∀e,e∈o.after->Region.binds .any e=true->(listed.setIfInBounds i true).getD e.on false=true:=by
    intro j o ho hl e he hb
    refine getD_set_true ?_
    by_cases hji:i=j
    .subst hji
     rw[h2] at ho
     obtain rfl:=Option.some.inj ho
     exact h3 e he hb
    .rw[getD_set_ne false hji] at hl
     exact hdc j o ho hl e he hb
   have next:∀(σ':St) a' w',xM y.dst σl σ'->vcE P (λf=>∃σ':St,σ'.f=f∧K σ') (atL aops (r1++r2)) σ'.f->(∃S ρ κ,OK C σ'.f a' w' S ρ κ)->wpAny P .any ops Q n (listed.setIfInBounds i true) a' w':=by
    rintro σ' a' w' hk hv' ⟨S',ρ',κ',hok'⟩
    refine ih (r1++r2) _ σ' a' w' S' ρ' κ' (by simp at hn⊢;omega) hsort' (by simp[hsz]) hr' (λk hkr hF x d hx hxd=>?_) hdc' hv' hok'
    have hki:k≠i:=by
     rintro rfl
     rcases List.mem_append.1 hkr with h|h
     .exact hnd.1 h
     .exact hnd.2 h
    refine hk d (hp.uniq k hF x d hx hxd i y (Ne.symm hki) hy) (hj k ?_ hF x d hx hxd)
    rcases List.mem_append.1 hkr with h|h
    .simp[h]
    .simp[h]
   simp only[vcE] at hbr
   split at hbr
   .obtain⟨δ,q1,q2⟩:=hbr
    have hv1:=aDi (P:=P) (o:=y) (σ:=canon σl) (δ:=δ) (uH σl) (by rw[iF];exact q1)
    refine wpOp_mono (λa' w' ⟨σ',S',ρ',κ',m1,m2⟩=>?_) (aB3 h2 g2 hv1 (by rw[iF];exact hok))
    rw[iF] at m1
    refine next σ' a' w' (λt ht hjt=>?_) (by rw[m1];exact q2) ⟨S',ρ',κ',m2⟩
    have:σ'.f.s t=(app y.dst δ σl.f).s t:=by rw[m1]
    rw[kW ht] at this
    exact this.trans hjt
   .obtain⟨σ2,q1,q2⟩:=hbr
    refine wpOp_mono (λa' w' ⟨σ',S',ρ',κ',m1,m2⟩=>?_) (aB3 h2 g2 q2 (by rw[q1];exact hok))
    refine next σ' a' w' (λt ht hjt=>m1.2 t ht ?_) m1.1 ⟨S',ρ',κ',m2⟩
    have:σ2.f.s t=σl.f.s t:=by rw[q1]
    exact this.trans hjt
theorem aS (ao:aH):aI ao.bare.op=aI ao.op∧ao.bare.dst=ao.dst∧ao.bare.guard=ao.guard∧oO ao.bare.op=oO ao.op:=by
 obtain⟨d,op,g⟩:=ao
 cases op<;>exact⟨rfl,rfl,rfl,rfl⟩
theorem aBk (y:aH) (t:Nat):jJ y.bare t=jJ y t:=by
 grind [aS,jJ]
theorem kP (x y:aH):gN x.bare y.bare=gN x y:=by
 grind [aS,jJ,aBk,gN]
theorem aBw {x:aH} (h:dB x.bare=true) (hb:∀f args bor,x.op=.call f args bor->bor=[]) (hs:∀k n z ps,x.op≠.bsliceC k n z ps):dB x=true:=by
 obtain⟨d,op,g⟩:=x
 cases op
 case bsliceC k n z ps=>exact absurd rfl (hs k n z ps)
 case call f args bor =>
  have:=hb f args bor rfl
  subst this
  exact h
 all_goals exact h
theorem aCO {s:List (Nat×AV)}{d:Nat} (h:(s.all λp=>!(p.1==d))=true):look s d=.junk:=by
 induction s with
 |nil=>rfl
 | cons p r ih =>
  obtain⟨i,x⟩:=p
  simp only[List.all_cons,Bool.and_eq_true,Bool.not_eq_true',beq_eq_false_iff_ne] at h
  simp only[look]
  rw[if_neg (λe=>h.1 e.symm)]
  exact ih h.2
theorem qG {α β:Type}{f g:α->Option β}:∀{l:List α},(∀x,x∈l->f x=g x)->l.filterMap f=l.filterMap g
 | [],_=>rfl
 |x::r,h=>by simp only[List.filterMap_cons,h x (by simp),qG (l:=r) λy hy=>h y (by simp[hy])]
instance:Inhabited aH:=⟨⟨none,.lenC 0,none⟩⟩
theorem jH (hm:P.follows .mixedOrders=true):iO P (bV P):=by
 intro C id ops aops fl K Q σ a w S ρ κ hd hc hen hQ hv hok
 unfold bV at hd
 rw[hc] at hd
 simp only at hd
 split at hd
 .rename_i hop
  obtain rfl:=Option.some.inj hd
  simp only[aFF,Bool.and_eq_true,List.all_eq_true] at hop
  obtain⟨hnt,hback,hpairs⟩:=hop
  have hnt:=Nat.le_of_ble_eq_true hnt
  have hset0:∀(k:Nat) (x:aH) (d:Nat),aops[k]? = some x->x.dst=some d->d+2000000∈aAZ ops (aops.map aH.bare)++aCD P ops (aops.map aH.bare)->∃k' x',aops[k']? = some x'∧x'.dst=some d∧setB ops k'=true:=by
   intro k x d hx hd hm
   have hdn:∀(k:Nat) (d:Nat),((aops.map aH.bare)[k]?).bind (·.dst)=some d->d<1000000:=by
    intro k d hd
    have hkl:k<aops.length:=by
     rcases Nat.lt_or_ge k aops.length with h|h
     .exact h
     .simp[h] at hd
    obtain⟨_,g2⟩:=gW hc
    obtain⟨o,q1,q2⟩:=g2 k aops[k] (by simp[hkl])
    obtain⟨_,h2,h3,_⟩:=dR q2
    have:aops[k].dst=some d:=by
     have e:((aops.map aH.bare)[k]?).bind (·.dst)=aops[k].dst:=by simp[hkl,(aS aops[k]).2.1]
     rw[←e];exact hd
    have hlt:d<C.nt:=h3 d (h2.trans this)
    omega
   rcases List.mem_append.1 hm with hm|hm
   .exfalso
    simp only[aAZ,List.mem_eraseDups,List.mem_flatMap,List.mem_filter] at hm
    obtain⟨p,_,hp⟩:=hm
    rcases List.mem_append.1 hp with hp|hp
    .rcases List.mem_append.1 hp with hp|hp
     .have:=hdn _ _ (Option.mem_toList.1 hp);omega
     .have:=hdn _ _ (Option.mem_toList.1 hp);omega
    .split at hp
     .split at hp
      .rename_i x' y' hx' hy'
       unfold aAN at hp
       rcases List.mem_append.1 hp with hp|hp
       .split at hp
        .split at hp
         .rename_i d' hd'
          have:=hdn p.1 d' (by rw[hx'];exact hd')
          simp at hp;omega
         .cases hp
        .cases hp
       .split at hp
        .split at hp
         .rename_i d' hd'
          have:=hdn p.2 d' (by rw[hy'];exact hd')
          simp at hp;omega
         .cases hp
        .cases hp
      .cases hp
     .cases hp
   .simp only[aCD,List.mem_filterMap,List.mem_range,List.length_map] at hm
    obtain⟨i,hi,hm⟩:=hm
    split at hm
    .rename_i o ho
     split at hm
     .rename_i d' hd'
      split at hm
      .rename_i hw
       simp only[Option.some.injEq] at hm
       have hdd:d'=d:=by omega
       simp only[Bool.and_eq_true] at hw
       obtain ⟨x',hx',rfl⟩:∃x',aops[i]? = some x'∧x'.bare=o:=by
        rw[List.getElem?_map] at ho
        exact Option.map_eq_some_iff.1 ho
       exact⟨i,x',hx',by rw[←(aS x').2.1,hd',hdd],hw.2⟩
      .cases hm
     .cases hm
    .cases hm
  obtain⟨g1,g2⟩:=gW hc
  have hlen:ops.size=aops.length:=by simpa using g1
  have hmem:∀k i,k<i->i<ops.size->xP ops k i=true->(k,i)∈lF ops.size ops:=by
   intro k i hk hi hf
   simp only[lF,List.mem_flatMap,List.mem_range,List.mem_filterMap]
   exact⟨i,hi,k,hk,by rw[if_pos hf]⟩
  let F:Nat->Prop:=λk=>∃p,p∈lF ops.size ops∧(wZ (aops.map aH.bare) p.1 p.2||tQ ops (aops.map aH.bare) p.1 p.2)=true∧pJ ops ops.size p.1 p.2=false∧(p.1=k∨p.2=k)
  have bareAt:∀(i:Nat) (x:aH),aops[i]? = some x->(aops.map aH.bare)[i]? = some x.bare:=by
   intro i x hx;simp[hx]
  have hfl:∀(k:Nat) (x:aH) (d:Nat),F k->aops[k]? = some x->x.dst=some d->d∈aAZ ops (aops.map aH.bare)++aCD P ops (aops.map aH.bare):=by
   rintro k x d ⟨p,hp,hpp,hpa,hpk⟩ hx hd
   refine List.mem_append_left _ ?_
   simp only[aAZ,List.mem_eraseDups,List.mem_flatMap,List.mem_filter]
   refine⟨p,⟨hp,hpp⟩,?_⟩
   have:((aops.map aH.bare)[k]?).bind (·.dst)=some d:=by rw[bareAt k x hx];simp[(aS x).2.1,hd]
   rcases hpk with h|h
   .rw[h,this];simp
   .rw[h,this];simp
  have hmk:∀(k i:Nat) (x y:aH) (d:Nat),(k,i)∈lF ops.size ops->tQ ops (aops.map aH.bare) k i=true->aops[k]? = some x->aops[i]? = some y->d∈aAN x.bare y.bare->d∈aAZ ops (aops.map aH.bare)++aCD P ops (aops.map aH.bare):=by
   intro k i x y d hp hpp hx hy hd
   refine List.mem_append_left _ ?_
   simp only[aAZ,List.mem_eraseDups,List.mem_flatMap,List.mem_filter]
   refine⟨(k,i),⟨hp,by rw[hpp,Bool.or_true]⟩,?_⟩
   simp only[bareAt k x hx,bareAt i y hy,hpp,if_true]
   simp[hd]
  simp only[uY,Bool.and_eq_true,List.all_eq_true] at hen
  replace hen:=hen.2
  have hjunk:∀(k:Nat) (x:aH) (d:Nat),F k->aops[k]? = some x->x.dst=some d->look σ.s d=.junk:=λk x d hF hx hd =>
   aCO (by simpa using hen.1 d (hfl k x d hF hx hd))
  have hbor:∀(k:Nat) (x:aH),F k->aops[k]? = some x->dB x.bare=true->dB x=true:=by
   intro k' x hF hx hfr
   have hds:oO x.bare.op=false->x.dst.isSome=true:=by
    intro hi
    simp only[dB,Bool.and_eq_true,Bool.or_eq_true,hi,(aS x).2.1,Bool.false_eq_true,false_or] at hfr
    exact hfr.2
   have hsl:∀k n z ps,x.op≠.bsliceC k n z ps:=by
    intro k n z ps e
    obtain⟨d,hd⟩:=Option.isSome_iff_exists.1 (hds (by rw[(aS x).2.2.2,e];rfl))
    have h1:=hen.2 x (List.mem_of_getElem? hx)
    rw[e,hd] at h1
    have h2:=hfl k' x d hF hx hd
    simp[h2] at h1
   refine aBw hfr (λf args bor e=>?_) hsl
   obtain⟨d,hd⟩:=Option.isSome_iff_exists.1 (hds (by rw[(aS x).2.2.2,e];rfl))
   have h1:=hen.2 x (List.mem_of_getElem? hx)
   rw[e,hd] at h1
   have h2:=hfl k' x d hF hx hd
   simp only[Bool.or_eq_true,List.isEmpty_iff,Bool.not_eq_true',List.contains_eq_mem,decide_eq_false_iff_not,decide_eq_true_eq] at h1
   rcases h1 with(h1|h1)|h1
   .exact h1
   .exact absurd h2 h1
   .exfalso
    obtain⟨k2,x2,g1,g2,g3⟩:=hset0 _ x d hx hd h1
    obtain⟨⟨ka,ia⟩,hp,hpp,hpa,hpk⟩:=hF
    have hu:oW (aops.map aH.bare) ka=true∧oW (aops.map aH.bare) ia=true:=by
     rw[Bool.or_eq_true] at hpp
     rcases hpp with hpp|hpp
     .simp only[wZ] at hpp
      split at hpp
      .simp only[Bool.and_eq_true] at hpp;exact⟨hpp.1.2,hpp.2⟩
      .cases hpp
     .simp only[tQ] at hpp
      split at hpp
      .simp only[Bool.and_eq_true] at hpp;exact⟨hpp.1.1.2,hpp.1.2⟩
      .cases hpp
    have huk:oW (aops.map aH.bare) k'=true:=by
     rcases hpk with h|h
     .simp only at h;rw[←h];exact hu.1
     .simp only at h;rw[←h];exact hu.2
    unfold oW at huk
    have e1:((aops.map aH.bare)[k']?).bind (·.dst)=some d:=by rw[bareAt k' x hx];simp[(aS x).2.1,hd]
    have e2:((aops.map aH.bare)[k2]?).bind (·.dst)=some d:=by rw[bareAt k2 x2 g1];simp[(aS x2).2.1,g2]
    rw[e1] at huk
    simp only[List.all_eq_true,List.mem_range,List.length_map] at huk
    have hq:=huk k2 (List.getElem?_eq_some_iff.1 g1).1
    rw[e2] at hq
    have hkk:k2=k':=by simpa using hq
    subst hkk
    unfold setB at g3
    have:=List.all_eq_true.1 g3 _ hp
    simp only[hpa,Bool.or_false,Bool.not_eq_true',Bool.or_eq_false_iff,beq_eq_false_iff_ne] at this
    rcases hpk with h|h
    .exact this.1 h
    .exact this.2 h
  have hno:∀(k:Nat) (x:aH) (d:Nat),aops[k]? = some x->x.dst=some d->d+1000000∈aAZ ops (aops.map aH.bare)++aCD P ops (aops.map aH.bare)->(∀g n a,x.op≠.load g n a)∧∀o a,x.op≠.fieldAddr o a:=by
   intro k x d hx hd hm
   have h1:=hen.2 x (List.mem_of_getElem? hx)
   refine⟨λg n a e=>?_,λo a e=>?_⟩
   .rw[e,hd] at h1
    simp[hm] at h1
   .rw[e,hd] at h1
    simp[hm] at h1
  have hpair:∀k i,(k,i)∈lF ops.size ops->(wZ (aops.map aH.bare) k i||tQ ops (aops.map aH.bare) k i)=true->pJ ops ops.size k i=false->∀(x y:aH),aops[k]? = some x->aops[i]? = some y->(Pair x y∨aBe x y∨aBd x y)∧oW (aops.map aH.bare) k=true∧oW (aops.map aH.bare) i=true:=by
   intro k i hki h hpa x y hx hy
   have hpp:=h
   rw[Bool.or_eq_true] at h
   rcases h with h|h
   .simp only[wZ,bareAt k x hx,bareAt i y hy,Bool.and_eq_true,Bool.or_eq_true,kP] at h
    refine⟨?_,h.1.2,h.2⟩
    rcases h.1.1 with h1|h1
    .exact .inl ⟨hbor k x ⟨_,hki,hpp,hpa,.inl rfl⟩ hx h1.1.1,hbor i y ⟨_,hki,hpp,hpa,.inr rfl⟩ hy h1.1.2,h1.2⟩
    .right;left
     simp only[aFH,Bool.and_eq_true,kP,Bool.not_eq_true',(aS y).2.2.1,Option.isNone_iff_eq_none] at h1
     obtain⟨⟨⟨⟨q1,q2⟩,q3⟩,q4⟩,q5⟩:=h1
     have q2':dB y=false:=by
      obtain⟨d,op,g⟩:=y
      cases op<;>first
       |exact q2
       |(exfalso;revert q5;simp[aH.bare,AOp.bare,AOp.bare0])
     refine⟨hbor k x ⟨_,hki,hpp,hpa,.inl rfl⟩ hx q1,q2',q3,q4,?_⟩
     obtain⟨dy,opy,gy⟩:=y
     obtain⟨dx,opx,gx⟩:=x
     cases opy<;>simp only[aH.bare,AOp.bare,AOp.bare0] at q5<;>try(cases q5;done)
     .refine .inl ⟨_,_,_,rfl,?_⟩
      cases opx<;>first|exact q5|simp[tO,AOp.bare,AOp.bare0] at q5
     .right
      cases opx<;>simp only[AOp.bare,AOp.bare0] at q5<;>try(cases q5;done)
      exact⟨_,_,_,_,_,.inl rfl,.inl rfl⟩
     .right
      cases opx<;>simp only[AOp.bare,AOp.bare0] at q5<;>try(cases q5;done)
      exact⟨_,_,_,_,_,.inr rfl,.inl rfl⟩
   .have hN:=h
    simp only[tQ,bareAt k x hx,bareAt i y hy,Bool.and_eq_true,Bool.or_eq_true] at h
    refine⟨?_,h.1.1.2,h.1.2⟩
    rcases h.1.1.1 with h1|h1|h1
    .right;right
     simp only[aFz,Bool.and_eq_true,kP,Bool.not_eq_true',(aS y).2.2.1,(aS x).2.2.1,(aS y).2.1,Option.isNone_iff_eq_none] at h1
     obtain⟨⟨⟨⟨⟨⟨⟨q1,q2⟩,q3⟩,q4⟩,q5⟩,q6⟩,q7⟩,q8⟩:=h1
     have kx:∃k b A X,x.op=.append k b A X∨x.op=.appendC k b A X:=by
      obtain⟨dx,opx,gx⟩:=x
      cases opx<;>simp only[aH.bare,AOp.bare,AOp.bare0] at q7<;>try(cases q7;done)
      .exact⟨_,_,_,_,.inl rfl⟩
      .exact⟨_,_,_,_,.inr rfl⟩
     have q1':dB x=false:=by
      obtain⟨k',b',A',X',h|h⟩:=kx<;>simp only[dB,h,kU,Bool.false_and]
     refine⟨q1',hbor i y ⟨_,hki,hpp,hpa,.inr rfl⟩ hy q2,q3,q4,q5,kx,.inr ?_⟩
     obtain⟨dy,opy,gy⟩:=y
     cases opy<;>simp only[aH.bare,AOp.bare,AOp.bare0,vL] at q8<;>first|rfl|(cases q8;done)
    .right;left
     have hh:=h1
     simp only[aEf,Bool.and_eq_true,kP,Bool.not_eq_true',(aS y).2.2.1,(aS x).2.1,Option.isNone_iff_eq_none] at h1
     obtain⟨⟨⟨⟨⟨⟨q1,q2⟩,q3⟩,q4⟩,q6⟩,q7⟩,q8⟩:=h1
     obtain⟨d,hdx⟩:=Option.isSome_iff_exists.1 q6
     have hmark:=hno k x d hx hdx (hmk k i x y _ hki hN hx hy (by unfold aAN;rw[if_pos hh,(aS x).2.1,hdx];exact List.mem_append_left _ (List.mem_singleton.2 rfl)))
     have ky:∃k b A X,y.op=.append k b A X∨y.op=.appendC k b A X:=by
      obtain⟨dy,opy,gy⟩:=y
      cases opy<;>simp only[aH.bare,AOp.bare,AOp.bare0] at q7<;>try(cases q7;done)
      .exact⟨_,_,_,_,.inl rfl⟩
      .exact⟨_,_,_,_,.inr rfl⟩
     have q2':dB y=false:=by
      obtain⟨k',b',A',X',h|h⟩:=ky<;>simp only[dB,h,kU,Bool.false_and]
     refine⟨hbor k x ⟨_,hki,hpp,hpa,.inl rfl⟩ hx q1,q2',q3,q4,.inr ?_⟩
     obtain⟨k',b',A',X',hky⟩:=ky
     refine⟨k',b',A',X',.tmp 0,hky,.inr ?_⟩
     obtain⟨dx,opx,gx⟩:=x
     cases opx<;>simp only[aH.bare,AOp.bare,AOp.bare0] at q8<;>try(cases q8;done)
     case load g n a=>exact absurd rfl (hmark.1 g n a)
     case fieldAddr o a=>exact absurd rfl (hmark.2 o a)
     case loadV g n a=>exact trivial
     case fieldV o a=>exact trivial
    .right;right
     have hh:=h1
     simp only[aDq,Bool.and_eq_true,kP,Bool.not_eq_true',(aS y).2.2.1,(aS x).2.2.1,(aS y).2.1,Option.isNone_iff_eq_none] at h1
     obtain⟨⟨⟨⟨⟨⟨⟨q1,q2⟩,q3⟩,q4⟩,q5⟩,q6⟩,q7⟩,q8⟩:=h1
     obtain⟨d,hdy⟩:=Option.isSome_iff_exists.1 q6
     have hmark:=hno i y d hy hdy (hmk k i x y _ hki hN hx hy (by unfold aAN;rw[if_pos hh,(aS y).2.1,hdy];exact List.mem_append_right _ (List.mem_singleton.2 rfl)))
     have kx:∃k b A X,x.op=.append k b A X∨x.op=.appendC k b A X:=by
      obtain⟨dx,opx,gx⟩:=x
      cases opx<;>simp only[aH.bare,AOp.bare,AOp.bare0] at q7<;>try(cases q7;done)
      .exact⟨_,_,_,_,.inl rfl⟩
      .exact⟨_,_,_,_,.inr rfl⟩
     have q1':dB x=false:=by
      obtain⟨k',b',A',X',h|h⟩:=kx<;>simp only[dB,h,kU,Bool.false_and]
     refine⟨q1',hbor i y ⟨_,hki,hpp,hpa,.inr rfl⟩ hy q2,q3,q4,q5,kx,?_⟩
     obtain⟨dy,opy,gy⟩:=y
     cases opy<;>simp only[aH.bare,AOp.bare,AOp.bare0] at q8<;>try(cases q8;done)
     case load g n a=>exact absurd rfl (hmark.1 g n a)
     case fieldAddr o a=>exact absurd rfl (hmark.2 o a)
     case loadV g n a=>subst q8;exact .inl (.inl ⟨_,_,rfl⟩)
     case fieldV o a=>exact .inl (.inr ⟨_,_,rfl⟩)
  have hplan:Plan P C ops aops F:=by
   refine⟨λj ao hj=>?_,hlen,λi o ho e he hb=>?_,λk i hk hi hf hna=>?_,λk hF x d hx hd j y hjk hy hyd=>?_⟩
   .obtain⟨o,q1,q2⟩:=g2 j ao hj
    exact⟨o,by simpa using q1,q2⟩
   .simp only[aFN,List.all_eq_true,List.mem_range] at hback
    have:=hback i (Array.getElem?_eq_some_iff.1 ho).1
    rw[ho] at this
    have:=Array.all_eq_true'.1 this e he
    simpa[hb] using this
   .have hm':=hmem k i hk hi hf
    have hpp:(wZ (aops.map aH.bare) k i||tQ ops (aops.map aH.bare) k i)=true:=by
     have:=hpairs (k,i) hm'
     simp only[hna,Bool.or_false] at this
     exact this
    exact⟨⟨_,hm',hpp,hna,.inl rfl⟩,⟨_,hm',hpp,hna,.inr rfl⟩,λx y hx hy=>(hpair k i hm' hpp hna x y hx hy).1⟩
   .obtain⟨⟨k',i'⟩,hp,hpp,hpa,hpk⟩:=hF
    have hlt:k'<aops.length∧i'<aops.length:=by
     simp only[lF,List.mem_flatMap,List.mem_range,List.mem_filterMap] at hp
     obtain⟨i2,h1,k2,h2,h3⟩:=hp
     split at h3
     .simp only[Option.some.injEq,Prod.mk.injEq] at h3;omega
     .cases h3
    have hu:=hpair k' i' hp hpp hpa aops[k'] aops[i'] (by simp[hlt.1]) (by simp[hlt.2])
    have hu:oW (aops.map aH.bare) k=true:=by
     rcases hpk with h|h
     .simp only at h;subst h;exact hu.2.1
     .simp only at h;subst h;exact hu.2.2
    unfold oW at hu
    have e1:((aops.map aH.bare)[k]?).bind (·.dst)=some d:=by rw[bareAt k x hx];simp[(aS x).2.1,hd]
    have e2:((aops.map aH.bare)[j]?).bind (·.dst)=some d:=by rw[bareAt j y hy];simp[(aS y).2.1,hyd]
    rw[e1] at hu
    simp only[List.all_eq_true,List.mem_range,List.length_map] at hu
    have hjl:=(List.getElem?_eq_some_iff.1 hy).1
    have:=hu j hjl
    rw[e2] at this
    simp[hjk] at this
  have hok':OK C σ.f a {w with drawn:=w.drawn+1} S ρ κ:=hok.ext (Ext.of_heap rfl rfl rfl)
  refine wp_region_any hm ?_
  refine aGx hplan hQ ops.size (List.range ops.size) _ σ a _ S ρ κ (by simp) List.pairwise_lt_range (by simp) (λi=>?_) (λi _ hF x d hx hd=>hjunk i x d hF hx hd) (λj o ho hl=>?_) ?_ hok'
  .simp only[List.mem_range]
   constructor
   .intro h;exact⟨h,by simp[h]⟩
   .exact λh=>h.1
  .exfalso
   have hj:=(Array.getElem?_eq_some_iff.1 ho).1
   simp[hj] at hl
  .have e:atL aops (List.range ops.size)=aops:=by
    rw[hlen]
    unfold atL
    have:∀(l:List aH) (k:Nat),(List.range' k l.length).filterMap (λi=>(List.replicate k default++l)[i]?)=l:=by
     intro l
     induction l with
     |nil=>intro k;simp
     | cons x r ih =>
      intro k
      rw[List.length_cons,List.range'_succ,List.filterMap_cons]
      have h1:(List.replicate k default++x::r)[k]? = some x:=by simp
      rw[h1]
      have:=ih (k+1)
      rw[show List.replicate k (default:aH)++x::r=(List.replicate k default++[x])++r by simp]
      have h2:∀i,i∈List.range' (k+1) r.length->((List.replicate k (default:aH)++[x])++r)[i]? = (List.replicate (k+1) default++r)[i]?:=by
       intro i hi
       have:=(List.mem_range'_1.1 hi).1
       rw[List.getElem?_append_right (by simp;omega),List.getElem?_append_right (by simp;omega)]
       simp
      rw[qG h2]
      simp only
      exact congrArg (x :: ·) this
    have:=this aops 0
    simp only[List.replicate_zero,List.nil_append] at this
    rw[List.range_eq_range',this]
   rw[e]
   exact aDh aops σ hv
 .cases hd
def iG (P:Program) (f:FuncId) (fn:Func) (ac:aD):Prop:=
 P.funcs[f]? = some fn∧(fn.body.bind (aU P fn.ntmps (bV P)))=some ac.bare∧(fn.name != "runtime.NumGoroutine")=true
theorem iG.fn {f:FuncId}{fn:Func}{ac:aD} (h:iG P f fn ac) (hm:P.follows .mixedOrders=true) {hin:List Blk}{args:List AV}{r:AV}{hout':List (Option Blk)} (nt:Nat) (rs:List ResultVar) (B:List Name) (hout:List Blk) (hnt:fn.ntmps=nt) (hrs:fn.results.toList=rs)
  (ho:hout'=hout.map some) (hna:args.length<=nt) (hnd:nodupB B=true) (hB:∀j,j<hin.length->B[j]? = some (.b j))
  (hw:∀C:Ctx,wpc P C (bV P) ac (tK P rs B r hout) (λe σ=>match e with|.ret=>tK P rs B r hout σ|.exit _=>False) ⟨ini 0 args,rX 0 hin⟩) :
  Fn P f hin args r hout':=by
 subst hnt;subst hrs;subst ho
 obtain⟨h1,h2,h3⟩:=h
 obtain⟨body,hb,hc⟩:=Option.bind_eq_some_iff.1 h2
 exact Fn.intro (jH hm) B h1 hb (by simpa using h3) hc hna (mU hnd) hB λC _=>hw C
end
end Go.Vs
