/- A region whose order is open: every order gives what the text's order gives. -/
import Derived.Test.YtkgeiaideklmoaaGreatVsX
set_option linter.all false
set_option maxHeartbeats 8000000
namespace Go.Vs
section
variable [Envs]
variable {P:Program}{C:Ctx}{a:Act}{w:World}{S:Nat→Prop}{ρ:Name→Option Nat}{κ:Name→Nat}
def tmpsOf:List Operand→List Nat
 | []=>[]
 |.tmp t::r=>t::tmpsOf r
 |_::r=>tmpsOf r
theorem uM:∀{l:List Operand}{t:Nat},t∉tmpsOf l→∀o,o∈l→o≠.tmp t
 | [],_,_,o,ho=>by cases ho
 | x::r,t,h,o,ho=>by
  rcases List.mem_cons.1 ho with rfl|ho
  ·rintro rfl;simp[tmpsOf] at h
  ·refine uM (l:=r) (fun h'=>h ?_) o ho;cases x<;>simp[tmpsOf,h']
def l9 (y:aJ) (t:Nat):Bool:=(tmpsOf (aK y.op)).contains t||(match y.guard with|some (g,_)=>g==t|none=>false)
def kG (x y:aJ):Bool:=
 (match x.dst with|some d=>!l9 y d&&!(y.dst==some d)|none=>true)&&(match y.dst with|some d=>!l9 x d|none=>true)
theorem aEf {x:aJ}{d:Option Nat}{δ:Dl}{σ:FSt}{b:Bool} (h:∀t,d=some t→∀g w,x.guard=some (g,w)→g≠t):runs x (app d δ σ) b↔runs x σ b:=by
 unfold runs;split
 ·exact Iff.rfl
 ·rename_i g F G;rw[l5 fun e=>h g e g F G rfl]
theorem aHN {x y:aJ}{σ:FSt}{L M:Dl} (Y:wZ P x σ L) (hy:wZ P y (app x.dst L σ) M) (hs:WF σ) (fx:dZ x=true) (fy:dZ y=true) (H:kG x y=true)
  (j1:∀t,x.dst=some t→σ.s t=.junk) (j2:∀t,y.dst=some t→σ.s t=.junk) :
  wZ P y σ M∧wZ P x (app y.dst M σ) L∧app x.dst L (app y.dst M σ)=app y.dst M (app x.dst L σ):=by
 simp only[kG,Bool.and_eq_true] at H
 have O:∀t,x.dst=some t→l9 y t=false∧y.dst≠some t:=fun t G=>by
  have:=H.1;rw[G] at this;simpa using this
 have b0:∀t,y.dst=some t→l9 x t=false:=fun t G=>by
  have:=H.2;rw[G] at this;simpa using this
 have F:∀{z:aJ}{t:Nat},l9 z t=false→(∀o,o∈aK z.op→o≠.tmp t)∧∀g w,z.guard=some (g,w)→g≠t:=by
  intro z t h;simp only[l9,Bool.or_eq_false_iff] at h;refine⟨uM (by simpa using h.1),fun g w hg=>?_⟩;have:=h.2;rw[hg] at this;simpa using this
 obtain⟨bx,rx,Y⟩:=Y;obtain⟨I,ry,hy⟩:=hy;rw[aEf fun t G=>(F (O t G).1).2] at ry;have ha:∀δ,runs x (app y.dst δ σ) bx:=fun δ=>(aEf fun t G=>(F (b0 t G)).2).2 rx;simp only[dZ,Bool.and_eq_true] at fx fy
 have J:∀(b:Bool) (z:aJ),nC z.op=true→nC (aBd b z)=true:=by
  intro b z h;cases b
  ·rfl
  ·exact h
 have ops:∀(b:Bool) (z:aJ) (t:Nat),(∀o,o∈aK z.op→o≠.tmp t)→∀o,o∈aK (aBd b z)→o≠.tmp t:=by
  intro b z t h o U;cases b
  ·simp only[aBd,aGr,aK,Bool.false_eq_true,if_false,List.mem_singleton] at U;subst U;simp
  ·exact h o U
 obtain⟨h1,h2,h3⟩:=aJn (x:=aBd bx x) (y:=aBd I y) Y hy hs (J _ _ fx.1) (J _ _ fy.1) (fun t G=>ops _ _ t (F (O t G).1).1) (fun t G=>ops _ _ t (F (b0 t G)).1) (fun t G=>(O t G).2) j1 j2;exact⟨⟨I,ry,h1⟩,⟨bx,ha _,h2⟩,h3⟩
def atL (aops:List aJ) (r:List Nat):List aJ:=r.filterMap fun i=>aops[i]?
def Real (C:Ctx) (σ:FSt):Prop:=∃(σl:St) (a:Act) (w:World) (S:Nat→Prop) (ρ:Name→Option Nat) (κ:Name→Nat),σl.f=σ∧OK C σl.f a w S ρ κ
structure Pair (x y:aJ):Prop where
 fx:dZ x=true
 fy:dZ y=true
 ap:kG x y=true
theorem aEs {ops:Array Oper}{i:Nat}{o:Oper}{ao:aJ}{σ:FSt}{δ:Dl} (M:ops[i]? = some o) (J:mU P C.nt ops o=some ao.bare) (O:Real C σ) (L:wZ P ao σ δ):Real C (app ao.dst δ σ):=by
 obtain⟨H,a,w,S,ρ,κ,rfl,F⟩:=O;have U:=aH1 (P:=P) (o:=ao) (σ:=canon H) (δ:=δ) (aAo H) (by rw[lF];exact L);obtain⟨I,w',σ',S',ρ',κ',G,h2⟩:=aGe (aGD (Q:=fun _ _ _=>False) M J U (by rw[lF];exact F));rw[lF] at G;exact⟨σ',I,w',S',ρ',κ',G,h2⟩
/-! ## a value that is copied, and a write behind it -/
def aDV:AOp→Option (Operand×Option Nat)
 |.mv o=>some (o,none)
 |.extract o i=>some (o,some i)
 |_=>none
def zT:AOp→Bool
 |.mv _=>true
 |.extract _ _=>true
 |.bin _ _ _=>true
 |.conv _ _=>true
 |_=>false
def aHH:AOp→Prop
 |.loadV _ _ _=>True
 |.fieldV _ _=>True
 |_=>False
structure aFh (x y:aJ):Prop where
 fx:dZ x=true
 fy:dZ y=false
 g:y.guard=none
 ap:kG x y=true
 k:(∃k A X,y.op=.store k A X∧zT x.op=true)∨∃k b A X o,(y.op=.append k b A X∨y.op=.appendC k b A X)∧(x.op=.mv o∨aHH x.op)
theorem aE0 {d:Option Nat}{op:AOp}{o:Operand}{oi:Option Nat}{σ σ':FSt}{δ:Dl} (F:aDV op=some (o,oi)) (M:Eff P d op σ δ) (e:evO σ'.s o=evO σ.s o):Eff P d op σ' δ∧δ.nb=[]∧δ.fz=false:=by
 cases M with
 | rd v h1 h2 h3 =>
  refine⟨?_,rfl,rfl⟩;cases op<;>simp only[aDV,Option.some.injEq,Prod.mk.injEq] at F<;>try(cases F;done)
  case mv x =>
   obtain⟨rfl,rfl⟩:=F;have G:=h2 (fun u=>u=v) rfl;simp only[rd] at G;refine .rd v rfl (fun K H=>?_) fun p I _=>?_
   ·simp only[rd];rw[e,G];exact H
   ·have:=I x (by simp[aK]);rwa [e,G] at this
  case extract x i =>
   obtain⟨rfl,rfl⟩:=F;have G:=h2 (fun u=>u=v) rfl;simp only[rd] at G;split at G
   ·rename_i c J;refine .rd v rfl (fun K H=>?_) fun p I _=>?_
    ·simp only[rd];rw[e,J];exact⟨G.1,by rw[G.2];exact H⟩
    ·have:=I x (by simp[aK]);rw[e,J] at this;rw[←G.2];exact Nm.getD this.nZ _
   ·exact G.elim
 | al d' hd v b h1 hf hn h2 h3 =>
  exfalso;have:=h1 (fun _ _=>True) trivial;cases op<;>simp only[aDV] at F<;>first|(cases F;done)|exact this.elim
 | call d' hd f args hop' g caps hg ys L hm r hout fz hfn hflat hfr =>
  subst hop';simp[aDV] at F
theorem aJo {d:Option Nat}{op:AOp}{σ σ':FSt}{δ:Dl} (F:zT op=true) (J:Eff P d op σ δ) (e:∀o,o∈aK op→evO σ'.s o=evO σ.s o):Eff P d op σ' δ∧δ.nb=[]∧δ.fz=false:=by
 cases J with
 | rd v h1 h2 h3 =>
  refine⟨?_,rfl,rfl⟩;cases op<;>simp only[zT] at F<;>try(cases F;done)
  case mv x =>
   exact(aE0 (o:=x) (oi:=none) rfl (.rd v h1 h2 h3) (e x (by simp[aK]))).1
  case extract x i =>
   exact(aE0 (o:=x) (oi:=some i) rfl (.rd v h1 h2 h3) (e x (by simp[aK]))).1
  case bin b x y =>
   have G:=h2 (fun u=>u=v) rfl
   have H:∃z,v=.v z:=by
    simp only[rd] at G;split at G
    ·unfold aFb at G;cases b<;>exact⟨_,G.2.symm⟩
    ·exact G.elim
   obtain⟨z,rfl⟩:=H;refine .rd _ rfl (fun K I=>?_) fun p _ _=>.v _ _;have:=h2 K I;simp only[rd] at this⊢;rw[e x (by simp[aK]),e y (by simp[aK])];exact this
  case conv k x =>
   have G:=h2 (fun u=>u=v) rfl
   have H:∃z,v=.v z:=by
    simp only[rd] at G;split at G
    ·exact⟨_,G.symm⟩
    ·exact G.elim
   obtain⟨z,rfl⟩:=H;refine .rd _ rfl (fun K I=>?_) fun p _ _=>.v _ _;have:=h2 K I;simp only[rd] at this⊢;rw[e x (by simp[aK])];exact this
 | al d' hd v b h1 hf hn h2 h3 =>
  exfalso;have:=h1 (fun _ _=>True) trivial;cases op<;>simp only[zT] at F<;>first|(cases F;done)|exact this.elim
 | call d' hd f args hop' g caps hg ys L hm r hout fz hfn hflat hfr =>
  subst hop';simp[zT] at F
theorem aCh {σ:St} (G:Canon σ) (on:Option Name):Canon (aO on σ):=by
 cases on with
 |none=>exact G
 | some n =>
  refine⟨fun p F=>?_,fun p F=>?_⟩
  ·simp only[aO,aW] at F⊢;obtain⟨q,H,rfl⟩:=List.mem_map.1 F;simp only;rw[mM (scr n) (by simp[scr,AV.has]),G.1 q H]
  ·simp only[aO,aW] at F⊢;obtain⟨q,H,rfl⟩:=List.mem_map.1 F;obtain⟨I,h2⟩:=List.mem_filter.1 H;simp only[Bool.not_eq_true',decide_eq_false_iff_not] at h2;simp only;rw[rJ,if_neg h2,G.2 q I];rfl
theorem dW {σ:St}{on:Option Name} (t:Nat):look (aO on σ).s t=match on with|some n=>scr n (look σ.s t)|none=>look σ.s t:=by
 cases on with
 |none=>rfl
 | some n =>
  simp only[aO,aW];rw[mM (scr n) (by simp[scr,AV.has])]
theorem dU {σ:St}{on:Option Name} (m:Name):aB (aO on σ).h m=match on with|some n=>if m=n then none else(aB σ.h m).map (fM n)|none=>aB σ.h m:=by
 cases on with
 |none=>rfl
 | some n =>
  simp only[aO,aW];rw[rJ]
theorem aHV {k:Nat}{h:Name→Option Blk}{x:AV}{on:Option Name}{l:List (List AV)} (F:aBa k h x=some (on,l)):∀n,on=some n→∃k l z,h n=some (.arr k l z):=by
 intro n G;subst G;unfold aBa at F;split at F
 ·simp at F
 ·split at F
  ·rename_i I J z H;split at F
   ·simp only[Option.some.injEq,Prod.mk.injEq] at F;obtain⟨rfl,_⟩:=F;exact⟨_,_,_,H⟩
   ·cases F
  ·cases F
 ·cases F
def eY:Option Name→AV→AV
 |some n,x=>scr n x
 |none,x=>x
theorem aIs (on:Option Name) (x:Value):eY on (.v x)=.v x:=by cases on<;>simp[eY,scr,AV.has]
theorem aAw (on:Option Name):eY on .junk=.junk:=by cases on<;>simp[eY,scr,AV.has]
theorem yK {on:Option Name}:∀{l:List AV},l.all qQ=true→l.map (eY on)=l
 | [],_=>rfl
 | x::r,h=>by
  simp only[List.all_cons,Bool.and_eq_true] at h;rw[List.map_cons,yK h.2];cases x<;>simp[qQ] at h;rw[aIs]
theorem aAY {on:Option Name}:∀{l:List AV},(l.map (eY on)).all qQ=true→l.map (eY on)=l
 | [],_=>rfl
 | x::r,h=>by
  simp only[List.map_cons,List.all_cons,Bool.and_eq_true] at h;rw[List.map_cons,aAY h.2];congr 1;cases on with
  |none=>rfl
  | some n =>
   simp only[eY,scr] at h⊢;split
   ·rename_i hh;rw[if_pos hh] at h;simp[qQ] at h
   ·rfl
theorem yS {n:Name}:∀{l:List AV},l.all qQ=true→l6 n l=false
 | [],_=>rfl
 | x::r,h=>by
  simp only[List.all_cons,Bool.and_eq_true] at h;simp only[l6,yS h.2,Bool.or_false];cases x<;>simp[qQ] at h;rfl
theorem zI {on:Option Name}{m:Name}{e c:Nat} (h:∀n,on=some n→m≠n):eY on (.ptr m e c)=.ptr m e c:=by
 cases on with
 |none=>rfl
 |some n=>simp[eY,scr,AV.has,h n rfl]
theorem zH {on:Option Name}{x:AV}{m:Name}{e c:Nat} (h:eY on x=.ptr m e c):x=.ptr m e c∧∀n,on=some n→m≠n:=by
 cases on with
 |none=>exact⟨h,fun n h=>by cases h⟩
 | some n =>
  simp only[eY,scr] at h;split at h
  ·cases h
  ·rename_i hh;subst h;refine⟨rfl,fun G F=>?_⟩;obtain rfl:=Option.some.inj F;simpa[AV.has] using hh
theorem aBk (f:AV→AV) (cs:List AV) (z:Bool) (e:Nat):(Blk.var (cs.map f) z).row e=((Blk.var cs z).row e).map f:=by cases e<;>rfl
theorem aDu {on:Option Name}{g:Bool}{l:List AV} (h:(!g||l.all qQ)=true):AV.mk g (l.map (eY on))=eY on (AV.mk g l):=by
 cases g with
 | false =>
  simp only[AV.mk,Bool.false_eq_true,if_false];cases l with
  |nil=>exact(aAw on).symm
  |cons x r=>rfl
 | true =>
  simp only[Bool.not_true,Bool.false_or] at h;simp only[AV.mk,if_true];rw[yK h];cases on with
  |none=>rfl
  |some n=>simp[eY,scr,AV.has,yS h]
theorem aHy {d:Option Nat}{op:AOp}{σ τ:FSt}{δ:Dl}{on:Option Name} (hj:aHH op) (he:Eff P d op σ δ)
  (U:∀o,o∈aK op→evO τ.s o=eY on (evO σ.s o)) (hc:∀n,on=some n→∃k l z,σ.h n=some (.arr k l z))
  (hh:∀m c z,σ.h m=some (.var c z)→τ.h m=some (.var (c.map (eY on)) z)):Eff P d op τ ⟨eY on δ.v,[],false,[],fun _=>False⟩:=by
 have M:∀{m:Name}{c:List AV}{z:Bool},σ.h m=some (.var c z)→∀n,on=some n→m≠n:=by
  intro m c z hm n hn e;obtain⟨k,l,z',h⟩:=hc n hn;rw[←e,hm] at h;cases h
 cases op<;>simp only[aHH] at hj
 case loadV g k a =>
  cases he with
  | rd v h1 h2 h3 =>
   have F:=h2 (fun u=>u=v) rfl;have I:=U a (by simp[aK]);simp only[rd] at F;split at F
   ·rename_i m e c hx;split at F
    ·rename_i cs z O;rw[hx,zI (M O)] at I;have H:=hh m cs z O;obtain⟨⟨hl,Y⟩,rfl⟩:=F
     have em:((((Blk.var (cs.map (eY on)) z).row e).drop c).take k)=((((Blk.var cs z).row e).drop c).take k).map (eY on):=by
      rw[aBk,List.map_take,List.map_drop]
     have ep:((!g||(((((Blk.var cs z).row e).drop c).take k).map (eY on)).all qQ)=true):=by
      cases g with
      |false=>rfl
      | true =>
       simp only[Bool.not_true,Bool.false_or] at Y⊢;rw[yK Y];exact Y
     refine .rd _ rfl (fun K hK=>?_) fun p J hq=>?_
     ·simp only[rd,I,H];refine⟨⟨by rw[aBk,List.length_map];exact hl,by rw[em];exact ep⟩,?_⟩;rw[em,aDu Y];exact hK
     ·have G:=J a (by simp[aK]);rw[I] at G;rw[←aDu Y,←em];exact NmL.mk (NmL.take (NmL.drop ((hq m _ G.eD H).row e) _) _)
    ·exact F.elim
   ·exact F.elim
  |al d' hd v b h1 hf hn h2 h3=>exact(h1 (fun _ _=>True) trivial).elim
  |call d' hd f args hop' g caps hg ys L hm r hout fz hfn hflat hfr=>cases hop'
 case fieldV off x =>
  cases he with
  | rd v h1 h2 h3 =>
   have F:=h2 (fun u=>u=v) rfl;have I:=U x (by simp[aK]);simp only[rd] at F;split at F
   ·rename_i m e c hx;split at F
    ·rename_i cs z O;rw[hx,zI (M O)] at I;have H:=hh m cs z O;subst F;simp only[zI (M O)];refine .rd _ rfl (fun K hK=>?_) fun p J hq=>?_
     ·simp only[rd,I,H];exact hK
     ·have G:=J x (by simp[aK]);rw[I] at G;exact .ptr _ _ _ _ G.eD
    ·exact F.elim
   ·exact F.elim
  |al d' hd v b h1 hf hn h2 h3=>exact(h1 (fun _ _=>True) trivial).elim
  |call d' hd f args hop' g caps hg ys L hm r hout fz hfn hflat hfr=>cases hop'
theorem aHO {d:Option Nat}{op:AOp}{σ:FSt}{δ:Dl} (F:uX op=true) (G:Eff P d op σ δ):δ.nb=[]∧δ.fz=false:=by
 cases G with
 |rd v h1 h2 h3=>exact⟨rfl,rfl⟩
 | al d' hd v b h1 hf hn h2 h3 =>
  exfalso;have:=h1 (fun _ _=>True) trivial;cases op<;>simp only[uX] at F<;>first|(cases F;done)|exact this.elim
 |call d' hd f args hop' g caps hg ys L hm r hout fz hfn hflat hfr=>subst hop';cases F
theorem aHM {x y:aJ}{σ:FSt}{F I:St}{δx:Dl}{K:FSt→Prop} (hx:wZ P x σ δx) (hp:aFh x y) (h0:F.f=σ) (j1:∀t,x.dst=some t→σ.s t=.junk) (hl:I.f=app x.dst δx σ)
  (H:vc P (fun σ'=>K σ'.f) [y] I):∃σ2:St,σ2.f=σ∧vc P (fun σ'=>∃δ',wZ P x σ'.f δ'∧K (app x.dst δ' σ'.f)) [y] σ2:=by
 subst h0;have hw:=hp.ap;simp only[kG,Bool.and_eq_true] at hw
 have a0:∀t,x.dst=some t→l9 y t=false∧y.dst≠some t:=fun t Y=>by
  have:=hw.1;rw[Y] at this;simpa using this
 have b0:∀t,y.dst=some t→l9 x t=false:=fun t Y=>by
  have:=hw.2;rw[Y] at this;simpa using this
 have ho:∀{z:aJ}{t:Nat},l9 z t=false→(∀o,o∈aK z.op→o≠.tmp t)∧∀g w,z.guard=some (g,w)→g≠t:=by
  intro z t h;simp only[l9,Bool.or_eq_false_iff] at h;refine⟨uM (by simpa using h.1),fun g w hg=>?_⟩;have:=h.2;rw[hg] at this;simpa using this
 obtain⟨b,rx,hj⟩:=hx
 have qe:uX (aBd b x)=true:=by
  cases b
  ·rfl
  ·rcases hp.k with⟨_,_,_,_,h⟩|⟨_,_,_,_,o,_,h⟩
   ·show uX x.op=true
    revert h;cases x.op<;>intro h<;>first|rfl|simp[zT] at h
   ·show uX x.op=true
    rcases h with h|h
    ·rw[h];rfl
    ·revert h;cases x.op<;>intro h<;>first|rfl|exact h.elim
 have hq:δx.nb=[]∧δx.fz=false:=aHO qe hj
 have hh:∀(d:Option Nat) (τ:FSt) (δ:Dl),δ.nb=[]→δ.fz=false→(app d δ τ).h=τ.h:=by
  intro d τ δ e1 e2
  funext n
  rw[yH,e1,e2];simp[aB]
 have es:∀t,look I.s t=(app x.dst δx F.f).s t:=fun t=>congrFun (congrArg FSt.s hl) t
 have eh:aB I.h=aB F.h:=by
  have:=congrArg FSt.h hl;rw[hh _ _ _ hq.1 hq.2] at this;exact this
 have ev:∀z,z∈aK y.op→evO (look I.s) z=evO (look F.s) z:=by
  intro z hz
  have e:evO (look I.s) z=evO (app x.dst δx F.f).s z:=by
   cases z<;>first|rfl|exact es _
  rw[e];exact aBu fun t Y=>(ho (a0 t Y).1).1 z hz
 simp only[vc,hp.g] at H;rcases hp.k with⟨k,A,X,hy,qo⟩|⟨k,qr,A,X,o',hy,J⟩
 ·have qd:zT (aBd b x)=true:=by
   cases b
   ·rfl
   ·exact qo
  rw[hy] at H ev;refine⟨F,rfl,?_⟩;simp only[vc,hp.g,hy];simp only[bG] at H⊢;refine⟨H.1,?_⟩;have H:=H.2;rw[ev A (by simp[aK]),ev X (by simp[aK]),eh] at H;split at H
  ·rename_i n e c hA;split at H
   ·rename_i U cs hb qs;refine⟨H.1,?_⟩;have hK:=H.2
    have hs:((⟨I.s,hset n (U.setRow e (lay (U.row e) c cs)) I.h⟩:St)).f=app x.dst δx (⟨F.s,hset n (U.setRow e (lay (U.row e) c cs)) F.h⟩:St).f:=by
     have e1:(⟨I.s,hset n (U.setRow e (lay (U.row e) c cs)) I.h⟩:St).f.s=(app x.dst δx (⟨F.s,hset n (U.setRow e (lay (U.row e) c cs)) F.h⟩:St).f).s:=funext fun t=>es t
     have e2:(⟨I.s,hset n (U.setRow e (lay (U.row e) c cs)) I.h⟩:St).f.h=(app x.dst δx (⟨F.s,hset n (U.setRow e (lay (U.row e) c cs)) F.h⟩:St).f).h:=by
      rw[hh _ _ _ hq.1 hq.2];simp only[St.f,u6,eh]
     exact congr (congrArg FSt.mk e1) e2
    refine⟨δx,⟨b,?_,?_⟩,by rw[←hs];exact hK⟩
    ·unfold runs at rx⊢;exact rx
    ·exact(aJo (σ':=(⟨F.s,hset n (U.setRow e (lay (U.row e) c cs)) F.h⟩:St).f) qd hj fun _ _=>rfl).1
   ·exact H.elim
  ·exact H.elim
 ·have hr:∀(d:Nat),y.dst=some d→∀(v0:AV) (B:List (Name×Blk)→List (Name×Blk)) (on:Option Name),(∀h h',aB h=aB h'→aB (B h)=aB (B h'))→(∀h m,m≠.t d 0→aB (B h) m=aB h m)→aB (aO on I).h (.t d 0)=none→(∀n,on=some n→∃k l z,aB F.h n=some (.arr k l z))→
    K (⟨(d,v0)::(aO on I).s,B (aO on I).h⟩:St).f→∃δ',wZ P x (⟨(d,v0)::(aO on (canon F)).s,B (aO on (canon F)).h⟩:St).f δ'∧K (app x.dst δ' (⟨(d,v0)::(aO on (canon F)).s,B (aO on (canon F)).h⟩:St).f):=by
   intro d hd v0 B on hB qh G he hK;have O:∀t,look (canon F).s t=look F.s t:=fun t=>congrFun (congrArg FSt.s (lF F)) t;have ha:aB (canon F).h=aB F.h:=congrArg FSt.h (lF F);have qj:∀t,x.dst=some t→d≠t:=fun t Y e=>(a0 t Y).2 (by rw[hd,e])
   let τ:St:=⟨(d,v0)::(aO on (canon F)).s,B (aO on (canon F)).h⟩
   let v':AV:=match on with|some n=>scr n δx.v|none=>δx.v
   have hs:(⟨(d,v0)::(aO on I).s,B (aO on I).h⟩:St).f=app x.dst ⟨v',[],false,[],fun _=>False⟩ τ.f:=by
    have e1:(⟨(d,v0)::(aO on I).s,B (aO on I).h⟩:St).f.s=(app x.dst ⟨v',[],false,[],fun _=>False⟩ τ.f).s:=by
     funext t
     simp only[St.f,look,dW];by_cases Y:x.dst=some t
     ·have h2:=qj t Y;rw[if_neg (fun e=>h2 e.symm)];have e3:=es t;rw[Y] at e3⊢;rw[lC] at e3;rw[lC,e3];cases on<;>rfl
     ·rw[l5 Y];have e3:=es t;rw[l5 Y] at e3;simp only[τ,look,dW,O];rw[e3];rfl
    have e2:(⟨(d,v0)::(aO on I).s,B (aO on I).h⟩:St).f.h=(app x.dst ⟨v',[],false,[],fun _=>False⟩ τ.f).h:=by
     rw[hh _ _ _ rfl rfl];refine hB _ _ (funext fun m=>?_);simp only[dU,eh,ha]
    exact congr (congrArg FSt.mk e1) e2
   have hτ:∀z,z∈aK x.op→z≠.tmp d:=fun z hz=>(ho (b0 d hd)).1 z hz;refine⟨⟨v',[],false,[],fun _=>False⟩,⟨b,?_,?_⟩,by show K (app x.dst _ τ.f);rw[←hs];exact hK⟩
   ·unfold runs at rx⊢;split at rx
    ·exact rx
    ·rename_i g qf hg;have qb:=(ho (b0 d hd)).2 g qf hg;rcases rx with⟨c,hc,h4⟩|⟨⟨cs,hc⟩,h4⟩
     ·refine .inl ⟨c,?_,h4⟩;simp only[St.f,look];rw[if_neg qb,dW,O];simp only[St.f] at hc;rw[hc];cases on<;>simp[scr,AV.has]
     ·refine .inr ⟨⟨cs,?_⟩,h4⟩;simp only[St.f,look];rw[if_neg qb,dW,O];simp only[St.f] at hc;rw[hc];cases on<;>simp[scr,AV.has]
   ·-- the copied value, behind the write
    have hk:(∃o2,aBd b x=.mv o2∧o2≠.tmp d)∨aHH (aBd b x):=by
     cases b
     ·exact .inl ⟨_,rfl,by simp⟩
     ·rcases J with J|J
      ·exact .inl ⟨o',J,hτ o' (by rw[J];simp[aK])⟩
      ·exact .inr J
    rcases hk with hk|hlv
    rotate_left
    ·have qi:b=true:=by
      cases b
      ·exact hlv.elim
      ·rfl
     subst qi;have qc:aHH x.op:=hlv
     have h8:Eff P x.dst x.op τ.f ⟨eY on δx.v,[],false,[],fun _=>False⟩:=by
      refine aHy qc hj (fun z hz=>?_) (fun n hn=>?_) (fun m c z hm=>?_)
      ·have qq:=hτ z hz;show evO (look τ.s) z=eY on (evO (look F.s) z)
       revert hz;cases hxe:x.op<;>intro hz<;>simp only[hxe,aHH] at qc
       all_goals
        cases z with
        | tmp t =>
         have h6:t≠d:=fun e=>qq (by rw[e]);simp only[evO,τ,look];rw[if_neg h6,dW,O];cases on<;>rfl
        | const w =>
         simp only[evO];cases on with
         |none=>rfl
         | some n =>
          simp only[eY,scr];rw[if_neg];cases w<;>simp[AV.ofValue,AV.has];rename_i cs
          have:dL (fun m=>m=n) (List.map (fun x=>AV.v x) (Array.toList cs)):=dL.of_mem fun x hx=>by
           obtain⟨y,_,rfl⟩:=List.mem_map.1 hx;exact Off.v _
          exact this n rfl
        |global g=>simp only[evO];exact(aAw on).symm
        |func f=>simp only[evO];cases on<;>simp[eY,scr,AV.has,l6]
      ·exact he n hn
      ·have ql:m≠.t d 0:=by
        rintro rfl;rw[dU,eh] at G;simp only[St.f] at hm;cases on with
        |none=>simp only at G;rw[hm] at G;cases G
        | some n =>
         obtain⟨k',l',z',hn⟩:=he n rfl;simp only at G;split at G
         ·rename_i e;rw[←e,hm] at hn;cases hn
         ·rw[hm] at G;cases G
       show aB τ.h m=_
       simp only[τ];rw[qh _ _ ql,dU,ha];simp only[St.f] at hm;cases on with
       |none=>rw[show c.map (eY none)=c by rw[show eY none=id from rfl];simp];exact hm
       | some n =>
        obtain⟨k',l',z',hn⟩:=he n rfl;have qk:m≠n:=fun e=>by rw[←e,hm] at hn;cases hn
        simp only;rw[if_neg qk,hm];rfl
     have qg:v'=eY on δx.v:=by cases on<;>rfl
     rw[qg];exact h8
    obtain⟨o2,hk,qm⟩:=hk;unfold EffS at hj⊢;rw[hk] at hj⊢;cases hj with
    | rd v h1 h2 h3 =>
     have M:=h2 (fun u=>u=v) rfl;simp only[rd] at M
     have h9:evO τ.f.s o2=v':=by
      show evO (look τ.s) o2=v'
      cases o2 with
      | tmp t =>
       have h6:t≠d:=fun e=>qm (by rw[e]);simp only[evO,τ,look];rw[if_neg h6,dW,O];simp only[evO,St.f] at M;rw[M];cases on<;>rfl
      | const w =>
       simp only[evO] at M⊢;simp only[v'];rw[←M];cases on with
       |none=>rfl
       | some n =>
        simp only[scr];rw[if_neg];cases w<;>simp[AV.ofValue,AV.has];rename_i cs
        have:dL (fun m=>m=n) (List.map (fun x=>AV.v x) (Array.toList cs)):=dL.of_mem fun x hx=>by
         obtain⟨y,_,rfl⟩:=List.mem_map.1 hx;exact Off.v _
        exact this n rfl
      | global g =>
       simp only[evO] at M⊢;simp only[v'];rw[←M];cases on<;>simp[scr,AV.has]
      | func f =>
       simp only[evO] at M⊢;simp only[v'];rw[←M];cases on<;>simp[scr,AV.has,l6]
     refine .rd v' rfl (fun K hK=>?_) fun p qn _=>?_
     ·simp only[rd];rw[h9];exact hK
     ·have:=qn o2 (by simp[aK]);rwa [h9] at this
    |al d' hd' v b h1 hf hn h2 h3=>exact(h1 (fun _ _=>True) trivial).elim
    |call d' hd' f args hop' g caps hg ys L hm r hout fz G hflat qa=>cases hop'
  have O:∀t,look (canon F).s t=look F.s t:=fun t=>congrFun (congrArg FSt.s (lF F)) t;have ha:aB (canon F).h=aB F.h:=congrArg FSt.h (lF F)
  have h7:∀z,evO (look (canon F).s) z=evO (look F.s) z:=by
   intro z;cases z<;>first|rfl|exact O _
  have hu:∀(d:Nat),y.dst=some d→∀(on:Option Name),bT (.t d 0) (aO on I)=true→bT (.t d 0) (aO on (canon F))=true:=by
   intro d hd on hf
   have qa:jM (.t d 0) (aO on (canon F)).f:=by
    have h1:=dI hf;refine⟨⟨?_,h1.1.2⟩,fun t=>?_,fun m U h5=>?_⟩
    ·have:=h1.1.1;simp only[St.f,dU] at this⊢;rw[ha,←eh];exact this
    ·have:=h1.2.1 t;simp only[St.f,dW] at this⊢;rw[O];by_cases Y:x.dst=some t
     ·have:=j1 t Y;simp only[St.f] at this;rw[this];cases on with
      |none=>rfl
      |some n=>simp[scr,AV.has]
     ·have e2:=es t;rw[l5 Y] at e2;rw[e2] at this;exact this
    ·refine h1.2.2 m U ?_;simp only[St.f,dU] at h5⊢;rw[ha,←eh] at h5;exact h5
   exact xS (aCh (aAo F) on) rfl qa
  refine⟨canon F,lF F,?_⟩;rcases hy with hy|hy<;>rw[hy] at H ev
  all_goals
   cases hd:y.dst with
   |none=>rw[hd] at H;exact H.elim
   | some d =>
    rw[hd] at H;simp only[vc,hp.g,hy,hd];simp only[bG] at H⊢;rw[ev A (by simp[aK]),ev X (by simp[aK]),eh] at H;rw[h7 A,h7 X,ha];split at H
    ·rename_i on l l' hA hX;obtain⟨⟨hf,qp⟩,hK⟩:=H;refine⟨⟨hu d hd on hf,qp⟩,?_⟩;have he:=aHV hA;have G:=wR hf
     first
      |exact hr d hd (.loc (.t d 0) 0 (l.length+l'.length)) (fun h=>(.t d 0,.arr k (l++l') false)::h) on (fun h h' e=>by funext m;simp only[aB,e]) (fun h m hm=>by simp only[aB];rw[if_neg hm]) G he hK
      |exact hr d hd (.sl k (l++l')) (fun h=>h) on (fun h h' e=>e) (fun h m hm=>rfl) G he hK
    ·exact H.elim
theorem aJC {ops:Array Oper}{K:FSt→Prop}{y:aJ}:∀(F H:List aJ) (σ:FSt),(∀x,x∈F→aFh x y∧∃(i:Nat) (o:Oper),ops[i]? = some o∧mU P C.nt ops o=some x.bare)→
  (F.Pairwise fun x x'=>∀t,x'.dst=some t→x.dst≠some t)→Real C σ→(∀x,x∈F→∀t,x.dst=some t→σ.s t=.junk)→
  vcE P K (F++y::H) σ→vcE P K (y::(F++H)) σ
 | [],H,σ,_,_,_,_,hv=>hv
 | x::F,H,σ,hp,hd,hr,j1,hv=>by
  obtain⟨G,i,o,ho,hc⟩:=hp x (by simp);have J:=G.fx;have L:=G.fy;simp only[List.cons_append,vcE,J,if_true] at hv;obtain⟨δx,M,h2⟩:=hv
  have:=aJC F H (app x.dst δx σ) (fun z I=>hp z (by simp[I])) hd.tail (aEs ho hc hr M) (fun z I t O=>by
    rw[l5 ((List.rel_of_pairwise_cons hd I) t O)];exact j1 z (by simp[I]) t O) h2
  simp only[vcE,L,Bool.false_eq_true,if_false] at this;obtain⟨σl,U,Y⟩:=this;obtain⟨σ0,a,w,S,ρ,κ,e,ha⟩:=hr;obtain⟨σ2,h5,h6⟩:=aHM (K:=fun f=>vcE P K (F++H) f) M G e (j1 x (by simp)) U (y5 (fun _ h=>h.1) Y);simp only[vcE,L,J,Bool.false_eq_true,if_false,if_true,List.cons_append];refine⟨σ2,h5,aBA (y5 (fun σ' h=>?_) h6)⟩;exact h
def aAX:AOp→Bool
 |.mv _=>true
 |.bin _ _ _=>true
 |.slc _ _ _ _=>true
 |_=>false
structure aFg (x y:aJ):Prop where
 fx:dZ x=false
 fy:dZ y=true
 gx:x.guard=none
 gy:y.guard=none
 ap:kG x y=true
 kx:∃k b A X,x.op=.append k b A X∨x.op=.appendC k b A X
 ky:((∃k a,y.op=.loadV true k a)∨∃o a,y.op=.fieldV o a)∨aAX y.op=true
theorem aHw {d:Option Nat}{op:AOp}{σ τ:FSt}{δ:Dl}{on:Option Name} (hk:(∃k a,op=.loadV true k a)∨∃o a,op=.fieldV o a) (he:Eff P d op τ δ) {new:Name}
  (hc:∀o,o∈aK op→evO τ.s o=eY on (evO σ.s o)) (hj:∀o,o∈aK op→(evO τ.s o).has new=false)
  (hh:∀m c z,m≠new→(∀n,on=some n→m≠n)→τ.h m=some (.var c z)→∃O,σ.h m=some (.var O z)∧c=O.map (eY on)) :
  Eff P d op σ ⟨δ.v,[],false,[],fun _=>False⟩∧eY on δ.v=δ.v∧δ.v.has new=false∧δ.nb=[]∧δ.fz=false:=by
 rcases hk with⟨k,a,rfl⟩|⟨off,x,rfl⟩
 ·cases he with
  | rd v h1 h2 h3 =>
   have F:=h2 (fun u=>u=v) rfl;have ha:=hc a (by simp[aK]);have G:=hj a (by simp[aK]);simp only[rd] at F;split at F
   ·rename_i m e c hx;rw[hx] at ha G;obtain⟨ea,J⟩:=zH ha.symm;have M:m≠new:=by simpa[AV.has] using G
    split at F
    ·rename_i cs z hb;obtain⟨O,I,rfl⟩:=hh m cs z M J hb;obtain⟨⟨hl,hp⟩,rfl⟩:=F
     have em:((((Blk.var (O.map (eY on)) z).row e).drop c).take k)=((((Blk.var O z).row e).drop c).take k).map (eY on):=by
      rw[aBk,List.map_take,List.map_drop]
     simp only[Bool.not_true,Bool.false_or] at hp;rw[em] at hp;have e2:=aAY hp;have Y:((((Blk.var O z).row e).drop c).take k).all qQ=true:=by rw[←e2];exact hp
     simp only[em,e2];refine⟨.rd _ rfl (fun K hK=>?_) fun p U hq=>?_,?_,?_,trivial,trivial⟩
     ·simp only[rd,ea,I];refine⟨⟨by rw[aBk,List.length_map] at hl;exact hl,by simp only[Bool.not_true,Bool.false_or];exact Y⟩,hK⟩
     ·have H:=U a (by simp[aK]);rw[ea] at H;exact NmL.mk (NmL.take (NmL.drop ((hq m _ H.eD I).row e) _) _)
     ·rw[←aDu (g:=true) (by simpa using Y),e2]
     ·simp only[AV.mk,if_true,AV.has,yS Y]
    ·exact F.elim
   ·exact F.elim
  |al d' hd v b h1 hf hn h2 h3=>exact(h1 (fun _ _=>True) trivial).elim
  |call d' hd f args hop' g caps hg ys L hm r hout fz hfn hflat hfr=>cases hop'
 ·cases he with
  | rd v h1 h2 h3 =>
   have F:=h2 (fun u=>u=v) rfl;have ha:=hc x (by simp[aK]);have G:=hj x (by simp[aK]);simp only[rd] at F;split at F
   ·rename_i m e c hx;rw[hx] at ha G;obtain⟨ea,J⟩:=zH ha.symm;have M:m≠new:=by simpa[AV.has] using G
    split at F
    ·rename_i cs z hb;obtain⟨O,I,rfl⟩:=hh m cs z M J hb;subst F;refine⟨.rd _ rfl (fun K hK=>?_) fun p U hq=>?_,zI J,by simp[AV.has,M],rfl,rfl⟩
     ·simp only[rd,ea,I];exact hK
     ·have H:=U x (by simp[aK]);rw[ea] at H;exact .ptr _ _ _ _ H.eD
    ·exact F.elim
   ·exact F.elim
  |al d' hd v b h1 hf hn h2 h3=>exact(h1 (fun _ _=>True) trivial).elim
  |call d' hd f args hop' g caps hg ys L hm r hout fz hfn hflat hfr=>cases hop'
theorem sP {on:Option Name}{x y:AV} (h:y=eY on x) (F:y≠.junk):x=y:=by
 cases on with
 |none=>exact h.symm
 | some n =>
  simp only[eY,scr] at h;split at h
  ·exact absurd h F
  ·exact h.symm
theorem aBj (on:Option Name) (k:Nat) (l:List (List AV)):eY on (.sl k l)=.sl k l:=by cases on<;>simp[eY,scr,AV.has]
theorem zJ {on:Option Name}{n:Name}{a b:Nat} (c d:Nat) (h:eY on (.loc n a b)=.loc n a b):eY on (.loc n c d)=.loc n c d:=by
 cases on with
 |none=>rfl
 | some m =>
  simp only[eY,scr,AV.has] at h⊢;by_cases F:n=m
  ·simp[F] at h
  ·simp[F]
theorem aHh {d:Option Nat}{op:AOp}{σ τ:FSt}{δ:Dl}{on:Option Name} (M:aAX op=true) (he:Eff P d op τ δ) {new:Name}
  (J:∀o,o∈aK op→evO τ.s o=eY on (evO σ.s o)) (hj:∀o,o∈aK op→(evO τ.s o).has new=false)
  (hh:∀m k l z,m≠new→τ.h m=some (.arr k l z)→σ.h m=some (.arr k l z)) :
  ∃v',Eff P d op σ ⟨v',[],false,[],fun _=>False⟩∧eY on v'=δ.v∧δ.v.has new=false∧δ.nb=[]∧δ.fz=false:=by
 cases he with
 | rd v G h2 h3 =>
  have F:=h2 (fun u=>u=v) rfl
  have hs:rd (evO σ.s) σ.h (fun u=>eY on u=v∧v.has new=false) op:=by
   cases op<;>simp only[aAX] at M<;>try(cases M;done)
   case mv a =>
    simp only[rd] at F⊢;have ha:=J a (by simp[aK]);have hn:=hj a (by simp[aK]);rw[F] at ha hn;exact⟨ha.symm,hn⟩
   case bin b x y =>
    simp only[rd] at F⊢;split at F
    ·rename_i k a k' b' U hy;have ex:=sP (J x (by simp[aK])) (by rw[U];simp);have ey:=sP (J y (by simp[aK])) (by rw[hy];simp);rw[ex,ey,U,hy];simp only;unfold aFb at F⊢;cases b<;>exact⟨F.1,by rw[←F.2];exact⟨aIs _ _,rfl⟩⟩
    ·exact F.elim
   case slc k x lo hi =>
    have eN:∀o:Option Operand,(∀z,o=some z→z∈aK (.slc k x lo hi))→o.map (evO τ.s)=none→o.map (evO σ.s)=none:=fun o _ h=>by
     cases o with
     |none=>rfl
     |some z=>cases h
    have eI:∀(o:Option Operand) (w:Value),(∀z,o=some z→z∈aK (.slc k x lo hi))→o.map (evO τ.s)=some (.v w)→o.map (evO σ.s)=some (.v w):=fun o w hm h=>by
     cases o with
     |none=>cases h
     | some z =>
      simp only[Option.map_some,Option.some.injEq] at h⊢;have:=sP (J z (hm z rfl)) (by rw[h];simp);rw[this,h]
    have I:∀z,lo=some z→z∈aK (.slc k x lo hi):=fun z hz=>by subst hz;simp[aK]
    have H:∀z,hi=some z→z∈aK (.slc k x lo hi):=fun z hz=>by subst hz;simp[aK]
    simp only[rd] at F⊢;split at F
    ·rename_i k' l U;have ex:=sP (J x (by simp[aK])) (by rw[U];simp);rw[ex,U];simp only;split at F
     ·rename_i G h2;rw[eN lo I G,eN hi H h2];exact⟨F.1,by rw[←F.2];exact⟨aBj _ _ _,rfl⟩⟩
     ·rename_i G h2;rw[eI lo _ I G,eN hi H h2];exact⟨F.1,by rw[←F.2];exact⟨aBj _ _ _,rfl⟩⟩
     ·rename_i G h2;rw[eN lo I G,eI hi _ H h2];exact⟨F.1,by rw[←F.2];exact⟨aBj _ _ _,rfl⟩⟩
     ·rename_i G h2;rw[eI lo _ I G,eI hi _ H h2];exact⟨F.1,by rw[←F.2];exact⟨aBj _ _ _,rfl⟩⟩
     ·exact F.elim
    ·rename_i n off len U;have hc:=J x (by simp[aK]);have ex:=sP hc (by rw[U];simp)
     have O:n≠new:=by
      have:=hj x (by simp[aK]);rw[U] at this;simpa[AV.has] using this
     have Y:eY on (.loc n off len)=.loc n off len:=by
      rw[ex,U] at hc;exact hc.symm
     split at F
     ·rename_i k' l z hb;rw[ex,U];simp only;rw[hh n k' l z O hb];simp only;split at F
      ·rename_i G h2;rw[eN lo I G,eN hi H h2];exact⟨F.1,by rw[←F.2];exact⟨zJ _ _ Y,by simp[AV.has,O]⟩⟩
      ·rename_i G h2;rw[eI lo _ I G,eN hi H h2];exact⟨F.1,by rw[←F.2];exact⟨zJ _ _ Y,by simp[AV.has,O]⟩⟩
      ·rename_i G h2;rw[eN lo I G,eI hi _ H h2];exact⟨F.1,by rw[←F.2];exact⟨zJ _ _ Y,by simp[AV.has,O]⟩⟩
      ·rename_i G h2;rw[eI lo _ I G,eI hi _ H h2];exact⟨F.1,by rw[←F.2];exact⟨zJ _ _ Y,by simp[AV.has,O]⟩⟩
      ·exact F.elim
     ·exact F.elim
    ·exact F.elim
  obtain⟨u,⟨g1,g2⟩,g3,g4⟩:=zS hs;exact⟨u,.rd u G g3 fun p ho hb=>g4 p (fun z ps e=>by subst e;simp[aAX] at M) ho hb,g1,g2,rfl,rfl⟩
 | al d' hd v b G hf hn h2 h3 =>
  exfalso;have:=G (fun _ _=>True) trivial;cases op<;>simp only[aAX] at M<;>first|(cases M;done)|exact this.elim
 |call d' hd f args hop' g caps hg ys L hm r hout fz hfn hflat hfr=>subst hop';simp[aAX] at M
theorem aHk {x y:aJ}{F:St}{K:FSt→Prop} (hp:aFg x y)
  (L:vc P (fun σ'=>∃δ,wZ P y σ'.f δ∧K (app y.dst δ σ'.f)) [x] F):∃H,wZ P y F.f H∧∃G:St,G.f=app y.dst H F.f∧vc P (fun σ'=>K σ'.f) [x] G:=by
 have hk:=hp.ap;simp only[kG,Bool.and_eq_true] at hk
 have a0:∀t,x.dst=some t→l9 y t=false∧y.dst≠some t:=fun t M=>by
  have:=hk.1;rw[M] at this;simpa using this
 have b0:∀t,y.dst=some t→l9 x t=false:=fun t M=>by
  have:=hk.2;rw[M] at this;simpa using this
 have hg:∀{z:aJ}{t:Nat},l9 z t=false→∀o,o∈aK z.op→o≠.tmp t:=by
  intro z t h;simp only[l9,Bool.or_eq_false_iff] at h;exact uM (by simpa using h.1)
 simp only[vc,hp.gx] at L
 have he:∀(d:Nat),x.dst=some d→∀(O:AV) (B:List (Name×Blk)→List (Name×Blk)) (on:Option Name),(∀h h',aB h=aB h'→aB (B h)=aB (B h'))→(∀h m,m≠.t d 0→aB (B h) m=aB h m)→
   bT (.t d 0) (aO on F)=true→(∃δ,wZ P y (⟨(d,O)::(aO on F).s,B (aO on F).h⟩:St).f δ∧K (app y.dst δ (⟨(d,O)::(aO on F).s,B (aO on F).h⟩:St).f))→
   ∃ H,wZ P y F.f H∧∃G:St,G.f=app y.dst H F.f∧(∀z,z∈aK x.op→evO (look G.s) z=evO (look F.s) z)∧aB G.h=aB F.h∧bT (.t d 0) (aO on G)=true∧
    K (⟨(d,O)::(aO on G).s,B (aO on G).h⟩:St).f:=by
  rintro d U O B on hB hs hf ⟨δ,⟨b,ry,hc⟩,hK⟩;have h5:y.dst≠some d:=(a0 d U).2;have hy:=hg (a0 d U).1;have Y:=dI hf;have J:b=true:=by simpa[runs,hp.gy] using ry
  subst J;have hc:Eff P y.dst y.op (⟨(d,O)::(aO on F).s,B (aO on F).h⟩:St).f δ:=hc
  have hu:∀o,o∈aK y.op→evO (⟨(d,O)::(aO on F).s,B (aO on F).h⟩:St).f.s o=eY on (evO F.f.s o):=by
   intro z hz;have ho:=hy z hz;cases z with
   | tmp t =>
    have ha:t≠d:=fun e=>ho (by rw[e]);simp only[evO,St.f,look];rw[if_neg ha,dW];cases on<;>rfl
   | const w =>
    simp only[evO];cases on with
    |none=>rfl
    | some n =>
     simp only[eY,scr];rw[if_neg];cases w<;>simp[AV.ofValue,AV.has];rename_i cs
     have:dL (fun m=>m=n) (List.map (fun x=>AV.v x) (Array.toList cs)):=dL.of_mem fun x I=>by
      obtain⟨y,_,rfl⟩:=List.mem_map.1 I;exact Off.v _
     exact this n rfl
   |global g=>simp only[evO];exact(aAw on).symm
   |func f=>simp only[evO];cases on<;>simp[eY,scr,AV.has,l6]
  have hw:∀o,o∈aK y.op→(evO (⟨(d,O)::(aO on F).s,B (aO on F).h⟩:St).f.s o).has (.t d 0)=false:=by
   intro z hz;have ho:=hy z hz;cases z with
   | tmp t =>
    have ha:t≠d:=fun e=>ho (by rw[e]);simp only[evO,St.f,look];rw[if_neg ha];exact Y.2.1 t
   | const w =>
    simp only[evO];cases w<;>simp[AV.ofValue,AV.has];rename_i cs
    have:dL (fun m=>m=.t d 0) (List.map (fun x=>AV.v x) (Array.toList cs)):=dL.of_mem fun x I=>by
     obtain⟨y,_,rfl⟩:=List.mem_map.1 I;exact Off.v _
    exact this _ rfl
   |global g=>rfl
   |func f=>simp[evO,AV.has,l6]
  obtain ⟨v',e1,e2,e3,e4,e5⟩:∃v',Eff P y.dst y.op F.f ⟨v',[],false,[],fun _=>False⟩∧eY on v'=δ.v∧δ.v.has (.t d 0)=false∧δ.nb=[]∧δ.fz=false:=by
   rcases hp.ky with hky|hky
   rotate_left
   ·exact aHh (σ:=F.f) (on:=on) (new:=.t d 0) hky hc hu hw (fun m c l z hm J=>by
     simp only[St.f] at J⊢;rw[hs _ _ hm,dU] at J;cases on with
     |none=>exact J
     | some n =>
       simp only at J;split at J
       · cases J
       · obtain⟨b0,h1,h2⟩:=Option.map_eq_some_iff.1 J
         cases b0 with
         |var c0 z0=>simp[fM] at h2
         | arr k l z0 =>
           simp only[fM] at h2;rw[h1,h2])
   obtain ⟨q1,q2,q3,q4,q5⟩:=aHw (σ:=F.f) (on:=on) (new:=.t d 0) hky hc hu hw (fun m c z hm h4 J=>by
     simp only[St.f] at J⊢;rw[hs _ _ hm,dU] at J;cases on with
     |none=>exact⟨c,J,by rw[show eY none=id from rfl];simp⟩
     | some n =>
       simp only at J;rw[if_neg (h4 n rfl)] at J;obtain⟨b0,h1,h2⟩:=Option.map_eq_some_iff.1 J;cases b0 with
       | var c0 z0 =>
         simp only[fM,Blk.var.injEq] at h2;obtain⟨rfl,rfl⟩:=h2;exact⟨c0,h1,rfl⟩
       |arr k l z0=>simp[fM] at h2)
   exact⟨δ.v,q1,q2,q3,q4,q5⟩
  let H:Dl:=⟨v',[],false,[],fun _=>False⟩
  let G:St:=canon ⟨put y.dst v' F.s,F.h⟩
  have hq:G.f=app y.dst H F.f:=by
   rw[lF];exact aF7
  have s3:∀t,look G.s t=(app y.dst H F.f).s t:=fun t=>congrFun (congrArg FSt.s hq) t
  have h3:aB G.h=aB F.h:=by
   have:=congrArg FSt.h hq
   have e:(app y.dst H F.f).h=aB F.h:=by
    funext n;rw[yH];simp[H,aB,St.f]
   exact this.trans e
  refine⟨H,⟨true,by simp[runs,hp.gy],e1⟩,G,hq,fun z hz=>?_,h3,?_,?_⟩
  ·have e:evO (look G.s) z=evO (app y.dst H F.f).s z:=by cases z<;>first|rfl|exact s3 _
   rw[e];exact aBu fun t M=>hg (b0 t M) z hz
  ·refine xS (aCh (aAo _) on) rfl ⟨⟨?_,Y.1.2⟩,fun t=>?_,fun m bl hl=>?_⟩
   ·have:=Y.1.1;simp only[St.f,dU] at this⊢;rw[h3];exact this
   ·have:=Y.2.1 t;simp only[St.f,dW] at this⊢;rw[s3];by_cases M:y.dst=some t
    ·rw[M,lC];cases on with
     | none =>
      show AV.has (.t d 0) v'=false
      rw[show v'=δ.v from e2];exact e3
     | some n =>
      show AV.has (.t d 0) (scr n v')=false
      rw[show scr n v'=δ.v from e2];exact e3
    ·rw[l5 M];exact this
   ·refine Y.2.2 m bl ?_;simp only[St.f,dU] at hl⊢;rw[h3] at hl;exact hl
  ·have h0:(⟨(d,O)::(aO on G).s,B (aO on G).h⟩:St).f=app y.dst δ (⟨(d,O)::(aO on F).s,B (aO on F).h⟩:St).f:=by
    have g1:(⟨(d,O)::(aO on G).s,B (aO on G).h⟩:St).f.s=(app y.dst δ (⟨(d,O)::(aO on F).s,B (aO on F).h⟩:St).f).s:=by
     funext t
     by_cases M:y.dst=some t
     ·have ha:t≠d:=fun e=>h5 (by rw[M,e]);rw[M,lC];simp only[St.f,look];rw[if_neg ha,dW,s3,M,lC];cases on with
      |none=>exact e2
      |some n=>exact e2
     ·rw[l5 M];simp only[St.f,look,dW];rw[s3,l5 M];rfl
    have g2:(⟨(d,O)::(aO on G).s,B (aO on G).h⟩:St).f.h=(app y.dst δ (⟨(d,O)::(aO on F).s,B (aO on F).h⟩:St).f).h:=by
     have e:(app y.dst δ (⟨(d,O)::(aO on F).s,B (aO on F).h⟩:St).f).h=aB (B (aO on F).h):=by
      funext n;rw[yH,e4,e5];simp[aB,St.f]
     rw[e];refine hB _ _ (funext fun m=>?_);simp only[dU,h3]
    exact congr (congrArg FSt.mk g1) g2
   rw[h0];exact hK
 obtain⟨k,hr,A,X,I⟩:=hp.kx
 have go:∀(d:Nat),x.dst=some d→(x.op=.append k hr A X∨x.op=.appendC k hr A X)→bG P x.dst F (fun σ'=>∃δ,wZ P y σ'.f δ∧K (app y.dst δ σ'.f)) x.op→
   ∃H,wZ P y F.f H∧∃G:St,G.f=app y.dst H F.f∧bG P x.dst G (fun σ'=>K σ'.f) x.op:=by
  intro d U I L;rcases I with I|I
  ·rw[I,U] at L;simp only[bG] at L;split at L
   ·rename_i on l l' hA hX;obtain⟨⟨hf,hn⟩,hK⟩:=L;have hj:=he d U (.loc (.t d 0) 0 (l.length+l'.length)) (fun h=>(.t d 0,.arr k (l++l') false)::h) on (fun h h' e=>by funext m;simp only[aB,e]) (fun h m hm=>by simp only[aB];rw[if_neg hm]) hf hK;obtain⟨H,g1,G,g2,g3,g4,g5,g6⟩:=hj;rw[I] at g3;refine⟨H,g1,G,g2,?_⟩;rw[I,U];simp only[bG];rw[g3 A (by simp[aK]),g3 X (by simp[aK]),g4,hA,hX];exact⟨⟨g5,hn⟩,g6⟩
   ·exact L.elim
  ·rw[I,U] at L;simp only[bG] at L;split at L
   ·rename_i on l l' hA hX;obtain⟨⟨hf,hn⟩,hK⟩:=L;have hj:=he d U (.sl k (l++l')) (fun h=>h) on (fun h h' e=>e) (fun h m hm=>rfl) hf hK;obtain⟨H,g1,G,g2,g3,g4,g5,g6⟩:=hj;rw[I] at g3;refine⟨H,g1,G,g2,?_⟩;rw[I,U];simp only[bG];rw[g3 A (by simp[aK]),g3 X (by simp[aK]),g4,hA,hX];exact⟨⟨g5,hn⟩,g6⟩
   ·exact L.elim
 cases U:x.dst with
 |none=>rcases I with I|I<;>(rw[I,U] at L;exact L.elim)
 | some d =>
  obtain⟨H,g1,G,g2,g3⟩:=go d U I L;refine⟨H,g1,G,g2,?_⟩;simp only[vc,hp.gx];exact g3
theorem aJE {x:aJ}{I:St}{K:St→Prop} (J:x.guard=none) (L:∃k b A X,x.op=.append k b A X∨x.op=.appendC k b A X) (F:vc P K [x] I) :
  ∃r,K r∧∀H:St→Prop,H r→vc P H [x] I:=by
 obtain⟨k,b,A,X,G⟩:=L;simp only[vc,J] at F⊢;cases hd:x.dst with
 |none=>rcases G with G|G<;>(rw[G,hd] at F;exact F.elim)
 | some d =>
  rcases G with G|G<;>rw[G,hd] at F
  all_goals
   simp only[bG,G] at F⊢;split at F
   ·exact⟨_,F.2,fun H h=>⟨F.1,h⟩⟩
   ·exact F.elim
theorem aF3 {ops:Array Oper}{K:FSt→Prop}{y:aJ} (L:dZ y=true):∀(H J:List aJ) (σ:FSt),(∀x,x∈H→(Pair x y∨aFg x y)∧∃(i:Nat) (o:Oper),ops[i]? = some o∧mU P C.nt ops o=some x.bare)→
  (H.Pairwise fun x x'=>∀t,x'.dst=some t→x.dst≠some t)→Real C σ→(∀x,x∈H→∀t,x.dst=some t→σ.s t=.junk)→(H≠[]→∀t,y.dst=some t→σ.s t=.junk)→
  vcE P K (H++y::J) σ→vcE P K (y::(H++J)) σ
 | [],J,σ,_,_,_,_,_,hv=>hv
 | x::H,J,σ,hp,hd,hr,j1,j2,hv=>by
  obtain⟨F,i,o,ho,hc⟩:=hp x (by simp);have ha:kG x y=true:=by rcases F with h|h<;>exact h.ap
  have ax:∀t,y.dst=some t→x.dst≠some t:=by
   intro t G h;have:=ha;simp only[kG,h,Bool.and_eq_true,Bool.not_eq_true',beq_eq_false_iff_ne] at this;exact this.1.2 G
  rcases F with F|F
  ·have U:=F.fx;simp only[List.cons_append,vcE,U,if_true] at hv;obtain⟨δx,h1,h2⟩:=hv
   have:=aF3 L H J (app x.dst δx σ) (fun z I=>hp z (by simp[I])) hd.tail (aEs ho hc hr h1) (fun z I t G=>by
     rw[l5 ((List.rel_of_pairwise_cons hd I) t G)];exact j1 z (by simp[I]) t G) (fun _ t G=>by
     rw[l5 (ax t G)];exact j2 (by simp) t G) h2
   simp only[vcE,L,if_true] at this;obtain⟨δy,h3,Y⟩:=this;obtain⟨σl,a,w,S,ρ,κ,e,M⟩:=hr;obtain⟨h5,h6,h7⟩:=aHN h1 h3 (by rw[←e];exact M.wf) U L F.ap (j1 x (by simp)) (j2 (by simp));simp only[vcE,L,U,if_true,List.cons_append];exact⟨δy,h5,δx,h6,by rw[h7];exact Y⟩
  ·have U:=F.fx;simp only[List.cons_append,vcE,U,Bool.false_eq_true,if_false] at hv;obtain⟨σl,e,h2⟩:=hv;obtain⟨r,⟨h3,Y⟩,h5⟩:=aJE F.gx F.kx h2;obtain⟨σ0,a,w,S,ρ,κ,e0,M⟩:=hr
   have O:Real C r.f:=by
    obtain⟨a',w',σ',S',ρ',κ',q1,q2⟩:=aGe (aGD (Q:=fun _ _ _=>False) ho hc (h5 (fun σ'=>σ'=r) rfl) (by rw[e,←e0];exact M));exact⟨σ',a',w',S',ρ',κ',by rw[q1],q2⟩
   have sl:∀t,look σl.s t=σ.s t:=fun t=>congrFun (congrArg FSt.s e) t
   have:=aF3 L H J r.f (fun z I=>hp z (by simp[I])) hd.tail O (fun z I t G=>by
     exact Y t ((List.rel_of_pairwise_cons hd I) t G) ((sl t).trans (j1 z (by simp[I]) t G))) (fun _ t G=>by
     exact Y t (ax t G) ((sl t).trans (j2 (by simp) t G))) h3
   simp only[vcE,L,if_true] at this;obtain⟨δ',g1,σ3,g2,g3⟩:=aHk (K:=fun f=>vcE P K (H++J) f) F (h5 (fun σ'=>∃δ,wZ P y σ'.f δ∧vcE P K (H++J) (app y.dst δ σ'.f)) this);rw[e] at g1 g2;simp only[vcE,L,U,Bool.false_eq_true,if_false,if_true,List.cons_append];exact⟨δ',g1,σ3,g2,aBA g3⟩
def aJH (o:Oper) (k:Nat):Bool:=o.after.any fun e=>Region.binds .any e&&e.on==k
def aAr (ops:Array Oper):Nat→Nat→Nat→Bool
 |0,_,_=>false
 | n+1,k,i=>match ops[i]? with
  |some o=>o.after.any fun e=>Region.binds .any e&&(e.on==k||aAr ops n k e.on)
  |none=>false
def vF (aops:List aJ) (k:Nat):Bool:=match(aops[k]?).bind (·.dst) with
 |some d=>(List.range aops.length).all fun j=>j==k||!(((aops[j]?).bind (·.dst))==some d)
 |none=>true
def aB7 (ops:Array Oper) (k i:Nat):Bool:=match ops[i]? with|some o=>!aJH o k|none=>false
def aK8 (x y:aJ):Bool:=dZ x&&!dZ y&&y.guard.isNone&&kG x y&&match y.op with
 |.store ..=>zT x.op
 |.append ..=>match x.op with|.mv _=>true|_=>false
 |_=>false
def aJe (x y:aJ):Bool:=dZ x&&!dZ y&&y.guard.isNone&&kG x y&&x.dst.isSome&&(match y.op with
  |.append ..=>true
  |_=>false)&&match x.op with
 |.load ..=>true
 |.fieldAddr ..=>true
 |_=>false
def aIj (x y:aJ):Bool:=!dZ x&&dZ y&&x.guard.isNone&&y.guard.isNone&&kG x y&&y.dst.isSome&&(match x.op with
  |.append ..=>true
  |_=>false)&&match y.op with
 |.load g _ _=>g
 |.fieldAddr ..=>true
 |_=>false
def aKZ (x y:aJ):Bool:=!dZ x&&dZ y&&x.guard.isNone&&y.guard.isNone&&kG x y&&y.dst.isSome&&(match x.op with
  |.append ..=>true
  |_=>false)&&aAX y.op
def aEE (x y:aJ):List Nat:=(if aJe x y then(match x.dst with
  |some d=>[d+1000000]
  |none=>[]) else[])++if aIj x y then(match y.dst with
  |some d=>[d+1000000]
  |none=>[]) else[]
def zU (ops:Array Oper) (aops:List aJ) (k i:Nat):Bool:=match aops[k]?,aops[i]? with
 |some x,some y=>(aKZ x y||(aJe x y||aIj x y))&&vF aops k&&vF aops i&&!aAr ops ops.size k i
 |_,_=>false
def aBO (aops:List aJ) (k i:Nat):Bool:=match aops[k]?,aops[i]? with
 |some x,some y=>((dZ x&&dZ y&&kG x y)||aK8 x y)&&vF aops k&&vF aops i
 |_,_=>false
def aLc (ops:Array Oper):Bool:=(List.range ops.size).all fun i=>match ops[i]? with
 |some o=>o.after.all fun e=>!Region.binds .any e||decide (e.on<i)
 |none=>true
def pU (n:Nat) (ops:Array Oper):List (Nat×Nat):=(List.range n).flatMap fun i=>(List.range i).filterMap fun k=>if aB7 ops k i then some (k,i) else none
def aK6 (ops:Array Oper) (aops:List aJ):Bool:=aLc ops&&(pU ops.size ops).all fun p=>(aBO aops p.1 p.2||zU ops aops p.1 p.2)||aAr ops ops.size p.1 p.2
def aEW (ops:Array Oper) (aops:List aJ):List Nat:=(((pU ops.size ops).filter fun p=>aBO aops p.1 p.2||zU ops aops p.1 p.2).flatMap fun p=>((aops[p.1]?).bind (·.dst)).toList++((aops[p.2]?).bind (·.dst)).toList++(if zU ops aops p.1 p.2 then(match aops[p.1]?,aops[p.2]? with
  |some x,some y=>aEE x y
  |_,_=>[]) else[])).eraseDups
def setB (ops:Array Oper) (i:Nat):Bool:=(pU ops.size ops).all fun p=>!(p.1==i||p.2==i)||aAr ops ops.size p.1 p.2
def writes (P:Program):AOp→Bool
 | .call (.func g) _ _=>match P.funcs[g]? with
  |some fn=>fn.name == "loop.example/g01012/spec.l15Do"
  |none=>false
 |_=>false
def aEc (P:Program) (ops:Array Oper) (aops:List aJ):List Nat:=(List.range aops.length).filterMap fun i=>match aops[i]? with
 | some o=>match o.dst with
  |some d=>if writes P o.op&&setB ops i then some (d+2000000) else none
  |none=>none
 |none=>none
def bE (P:Program) (nt:Nat) (ops:Array Oper):Option (List Nat):=match aAQ P nt ops ops.toList with
 |some l=>if Nat.ble nt 1000000&&aK6 ops l then some (aEW ops l++aEc P ops l) else none
 |none=>none
end
section
variable [Envs]
variable {P:Program}{C:Ctx}{a:Act}{w:World}{S:Nat→Prop}{ρ:Name→Option Nat}{κ:Name→Nat}
theorem aCn (F:List aJ) (G H:List Nat):atL F (G++H)=atL F G++atL F H:=by simp[atL]
structure Plan (P:Program) (C:Ctx) (ops:Array Oper) (aops:List aJ) (F:Nat→Prop):Prop where
 corr:∀(j:Nat) (ao:aJ),aops[j]? = some ao→∃o:Oper,ops[j]? = some o∧mU P C.nt ops o=some ao.bare
 len:ops.size=aops.length
 back:∀(i:Nat) (o:Oper),ops[i]? = some o→∀e,e∈o.after→Region.binds .any e=true→e.on<i
 pair:∀k i,k<i→i<ops.size→aB7 ops k i=true→aAr ops ops.size k i=false→F k∧F i∧∀(x y:aJ),aops[k]? = some x→aops[i]? = some y→Pair x y∨aFh x y∨aFg x y
 uniq:∀k,F k→∀(x:aJ) (d:Nat),aops[k]? = some x→x.dst=some d→∀(j:Nat) (y:aJ),j≠k→aops[j]? = some y→y.dst≠some d
theorem aCo {ops:Array Oper}{F:Array Bool} (G:∀(j:Nat) (o:Oper),ops[j]? = some o→F.getD j false=true→∀e,e∈o.after→Region.binds .any e=true→F.getD e.on false=true) :
  ∀(n k i:Nat) (o:Oper),ops[i]? = some o→(∀e,e∈o.after→Region.binds .any e=true→F.getD e.on false=true)→aAr ops n k i=true→F.getD k false=true
 |0,_,_,_,_,_,h=>by simp[aAr] at h
 | n+1,k,i,o,ho,hl,h=>by
  simp only[aAr,ho] at h;rw[←Array.any_toList,List.any_eq_true] at h;obtain⟨e,I,h⟩:=h;simp only[Bool.and_eq_true,Bool.or_eq_true,beq_iff_eq] at h;have H:=hl e (by simpa using I) h.1;rcases h.2 with h2|h2
  ·rw[←h2];exact H
  ·cases ho':ops[e.on]? with
   | none =>
    cases n with
    |zero=>simp[aAr] at h2
    |succ n=>simp[aAr,ho'] at h2
   |some o'=>exact aCo G n k e.on o' ho' (G e.on o' ho' H) h2
theorem aLV {ops:Array Oper}{H:List aJ}{F:Nat→Prop}{K:St→Prop}{Q:Exit→Act→World→Prop} (hp:Plan P C ops H F) (hQ:∀a w,cK C K a w→Q .normal a w) :
  ∀ (n:Nat) (r:List Nat) (G:Array Bool) (Y:St) (a:Act) (w:World) (S:Nat→Prop) (ρ:Name→Option Nat) (κ:Name→Nat),r.length=n→r.Pairwise (· < ·)→G.size=ops.size→
   (∀i,i∈r↔i<ops.size∧G.getD i true=false)→(∀i,i∈r→F i→∀(x:aJ) (d:Nat),H[i]? = some x→x.dst=some d→look Y.s d=.junk)→
   (∀(j:Nat) (o:Oper),ops[j]? = some o→G.getD j false=true→∀e,e∈o.after→Region.binds .any e=true→G.getD e.on false=true)→
   vcE P (fun f=>∃σ':St,σ'.f=f∧K σ') (atL H r) Y.f→OK C Y.f a w S ρ κ→wpAny P .any ops Q n G a w:=by
 intro n
 induction n with
 | zero =>
  intro r G Y a w S ρ κ hn _ qk hr _ _ hv hs;obtain rfl:=List.length_eq_zero_iff.1 hn;refine⟨?_,?_⟩
  ·cases h:Region.ready .any ops G with
   |nil=>rfl
   | cons i l =>
    have:i∈Region.ready .any ops G:=by rw[h];simp
    obtain⟨h1,o,h2,_⟩:=mem_ready.1 this;have:i∈([]:List Nat):=(hr i).2 ⟨(Array.getElem?_eq_some_iff.1 h2).1,h1⟩;cases this
  ·obtain⟨σ',h1,h2⟩:=hv;exact hQ a w ⟨σ',S,ρ,κ,h2,by rw[h1];exact hs⟩
 | succ n ih =>
  intro r G Y a w S ρ κ hn L qk hr hj qd hv hs
  have done:∀i,i<ops.size→i∉r→G.getD i false=true:=by
   intro i hi qa;cases h:G.getD i true with
   |false=>exact absurd ((hr i).2 ⟨hi,h⟩) qa
   | true =>
    have:i<G.size:=by omega
    simp[this] at h⊢;exact h
  refine⟨fun qj=>?_,fun i hi=>?_⟩
  ·exfalso;cases r with
   |nil=>simp at hn
   | cons r0 r =>
    obtain⟨h1,h2⟩:=(hr r0).1 (by simp)
    have:r0∈Region.ready .any ops G:=mem_ready.2 ⟨h2,ops[r0],by simp[h1],fun e he hb=>by
      have hc:=hp.back r0 ops[r0] (by simp[h1]) e he hb;refine done e.on (by omega) fun hm=>?_;rcases List.mem_cons.1 hm with h|h
      · omega
      · have:=List.rel_of_pairwise_cons L h;omega⟩
    rw[qj] at this;cases this
  ·obtain⟨h1,oi,h2,h3⟩:=mem_ready.1 hi;have ha:i<ops.size:=(Array.getElem?_eq_some_iff.1 h2).1;have qa:i∈r:=(hr i).2 ⟨ha,h1⟩;obtain⟨M,r2,rfl⟩:=List.append_of_mem qa;have qm:i<H.length:=by rw[←hp.len];exact ha
   obtain⟨y,hy⟩:∃y,H[i]? = some y:=⟨H[i],by simp[qm]⟩;obtain⟨qs,g1,g2⟩:=hp.corr i y hy;rw[h2] at g1;obtain rfl:=Option.some.inj g1;have hc:∀k,k∈M→k<i:=fun k J=>(List.pairwise_append.1 L).2.2 k J i (by simp)
   have qf:∀k,k∈M→aB7 ops k i=true:=by
    intro k J;simp only[aB7,h2,aJH,Bool.not_eq_true',List.any_eq_false,←Array.any_toList];intro e he;simp only[Bool.and_eq_true,beq_iff_eq,not_and];intro hb qn;have h4:=h3 e (by simpa using he) hb;have h5:=((hr k).1 (by simp[J])).2;rw[qn] at h4;have:k<G.size:=by have:=hc k J;omega
    simp[this] at h4 h5;rw[h4] at h5;cases h5
   have h8:∀k,k∈M→aAr ops ops.size k i=false:=by
    intro k J;cases h:aAr ops ops.size k i with
    |false=>rfl
    | true =>
     have h4:=aCo qd ops.size k i oi h2 h3 h;have h5:=((hr k).1 (by simp[J])).2;have:k<G.size:=by have:=hc k J;omega
     simp[this] at h4 h5;rw[h4] at h5;cases h5
   have hq:∀x,x∈atL H M→∃k,k∈M∧H[k]? = some x:=by
    intro x U;obtain⟨k,J,O⟩:=List.mem_filterMap.1 U;exact⟨k,J,O⟩
   have e1:atL H (M++i::r2)=atL H M++y::atL H r2:=by
    rw[aCn];simp[atL,hy]
   rw[e1] at hv;have h7:=(List.pairwise_append.1 L).1
   have hf:(atL H M).Pairwise fun x x'=>∀t,x'.dst=some t→x.dst≠some t:=by
    have:M.Pairwise fun k k'=>∀x,H[k]? = some x→∀x',H[k']? = some x'→∀t,x'.dst=some t→x.dst≠some t:=by
     refine h7.imp_of_mem fun{k k'} J hk' hkk x U x' qc t ht=>?_;have hF:=(hp.pair k' i (hc k' hk') ha (qf k' hk') (h8 k' hk')).1;exact hp.uniq k' hF x' t qc ht k x (by omega) U
    exact List.pairwise_filterMap.2 (this.imp fun h x U x' qc=>h x U x' qc)
   have hw:Real C Y.f:=⟨Y,a,w,S,ρ,κ,rfl,hs⟩;have I:∀k,k∈M→F k∧F i∧∀(x y:aJ),H[k]? = some x→H[i]? = some y→Pair x y∨aFh x y∨aFg x y:=fun k J=>hp.pair k i (hc k J) ha (qf k J) (h8 k J)
   have qh:∀x,x∈atL H M→∀t,x.dst=some t→Y.f.s t=.junk:=by
    intro x U t ht;obtain⟨k,J,O⟩:=hq x U;exact hj k (by simp[J]) (I k J).1 x t O ht
   have hd:vcE P (fun f=>∃σ':St,σ'.f=f∧K σ') (y::(atL H M++atL H r2)) Y.f:=by
    by_cases hz:dZ y=true
    ·refine aF3 (P:=P) (C:=C) (ops:=ops) (y:=y) hz (atL H M) (atL H r2) Y.f (fun x U=>?_) hf hw qh (fun qo t ht=>?_) hv
     ·obtain⟨k,J,O⟩:=hq x U;obtain⟨o,q1,q2⟩:=hp.corr k x O;refine⟨?_,k,o,q1,q2⟩;rcases(I k J).2.2 x y O hy with h|h|h
      ·exact .inl h
      ·have:=h.fy;rw[hz] at this;cases this
      ·exact .inr h
     ·cases M with
      |nil=>exact absurd rfl qo
      |cons k _=>exact hj i (by simp) (I k (by simp)).2.1 y t hy ht
    ·refine aJC (P:=P) (C:=C) (ops:=ops) (y:=y) (atL H M) (atL H r2) Y.f (fun x U=>?_) hf hw qh hv;obtain⟨k,J,O⟩:=hq x U;obtain⟨o,q1,q2⟩:=hp.corr k x O;refine⟨?_,k,o,q1,q2⟩;rcases(I k J).2.2 x y O hy with h|h|h
     ·exact absurd h.fy hz
     ·exact h
     ·exact absurd h.fy hz
   have e2:atL H M++atL H r2=atL H (M++r2):=(aCn _ _ _).symm;rw[e2] at hd
   have h0:i∉M∧i∉r2:=by
    have hu:=List.pairwise_append.1 L;exact⟨fun h=>Nat.lt_irrefl _ (hc i h),fun h=>Nat.lt_irrefl _ (List.rel_of_pairwise_cons hu.2.1 h)⟩
   have h6:(M++r2).Pairwise (· < ·):=by
    have hu:=List.pairwise_append.1 L;exact List.pairwise_append.2 ⟨hu.1,hu.2.1.tail,fun x U y hy=>hu.2.2 x U y (by simp[hy])⟩
   have qp:∀k,k∈M++r2↔k<ops.size∧(G.setIfInBounds i true).getD k true=false:=by
    intro k;by_cases hg:k=i
    ·subst hg;have:k<G.size:=by omega
     simp[h0.1,h0.2,this]
    ·rw[getD_set_ne true (Ne.symm hg),←hr k];simp[hg]
   have qe:∀(j:Nat) (o:Oper),ops[j]? = some o→(G.setIfInBounds i true).getD j false=true→∀e,e∈o.after→Region.binds .any e=true→(G.setIfInBounds i true).getD e.on false=true:=by
    intro j o ho hl e he hb;refine getD_set_true ?_;by_cases qg:i=j
    ·subst qg;rw[h2] at ho;obtain rfl:=Option.some.inj ho;exact h3 e he hb
    ·rw[getD_set_ne false qg] at hl;exact qd j o ho hl e he hb
   have h9:∀(σ':St) a' w',aCQ y.dst Y σ'→vcE P (fun f=>∃σ':St,σ'.f=f∧K σ') (atL H (M++r2)) σ'.f→(∃S ρ κ,OK C σ'.f a' w' S ρ κ)→wpAny P .any ops Q n (G.setIfInBounds i true) a' w':=by
    rintro σ' a' w' J qq ⟨S',ρ',κ',hok'⟩;refine ih (M++r2) _ σ' a' w' S' ρ' κ' (by simp at hn⊢;omega) h6 (by simp[qk]) qp (fun k qi hF x d U ql=>?_) qe qq hok'
    have hg:k≠i:=by
     rintro rfl;rcases List.mem_append.1 qi with h|h
     ·exact h0.1 h
     ·exact h0.2 h
    refine J d (hp.uniq k hF x d U ql i y (Ne.symm hg) hy) (hj k ?_ hF x d U ql);rcases List.mem_append.1 qi with h|h
    ·simp[h]
    ·simp[h]
   simp only[vcE] at hd;split at hd
   ·obtain⟨δ,q1,q2⟩:=hd;have qr:=aH1 (P:=P) (o:=y) (σ:=canon Y) (δ:=δ) (aAo Y) (by rw[lF];exact q1);refine wpOp_mono (fun a' w' ⟨σ',S',ρ',κ',m1,m2⟩=>?_) (aGD h2 g2 qr (by rw[lF];exact hs));rw[lF] at m1;refine h9 σ' a' w' (fun t ht qb=>?_) (by rw[m1];exact q2) ⟨S',ρ',κ',m2⟩
    have:σ'.f.s t=(app y.dst δ Y.f).s t:=by rw[m1]
    rw[l5 ht] at this;exact this.trans qb
   ·obtain⟨σ2,q1,q2⟩:=hd;refine wpOp_mono (fun a' w' ⟨σ',S',ρ',κ',m1,m2⟩=>?_) (aGD h2 g2 q2 (by rw[q1];exact hs));refine h9 σ' a' w' (fun t ht qb=>m1.2 t ht ?_) m1.1 ⟨S',ρ',κ',m2⟩
    have:σ2.f.s t=Y.f.s t:=by rw[q1]
    exact this.trans qb
theorem bC (ao:aJ):aK ao.bare.op=aK ao.op∧ao.bare.dst=ao.dst∧ao.bare.guard=ao.guard∧uX ao.bare.op=uX ao.op:=by
 obtain⟨d,op,g⟩:=ao;cases op<;>exact⟨rfl,rfl,rfl,rfl⟩
theorem aBH (y:aJ) (t:Nat):l9 y.bare t=l9 y t:=by
 obtain⟨F,h2,G,H⟩:=bC y;simp only[l9,F,G]
theorem oW (x y:aJ):kG x.bare y.bare=kG x y:=by
 have F:=(bC x).2.1;have G:=(bC y).2.1;have e:∀(x y:aJ) (t:Nat),l9 y.bare t=l9 y t:=fun _ y t=>aBH y t;unfold kG;rw[F,G];cases x.dst<;>cases y.dst<;>simp only[aBH]
theorem aFT {x:aJ} (h:dZ x.bare=true) (G:∀f args bor,x.op=.call f args bor→bor=[]) (H:∀k n z F,x.op≠.bsliceC k n z F):dZ x=true:=by
 obtain⟨d,op,g⟩:=x;cases op
 case bsliceC k n z F=>exact absurd rfl (H k n z F)
 case call f args bor =>
  have:=G f args bor rfl;subst this;exact h
 all_goals exact h
theorem aHx {s:List (Nat×AV)}{d:Nat} (h:(s.all fun p=>!(p.1==d))=true):look s d=.junk:=by
 induction s with
 |nil=>rfl
 | cons p r ih =>
  obtain⟨i,x⟩:=p;simp only[List.all_cons,Bool.and_eq_true,Bool.not_eq_true',beq_eq_false_iff_ne] at h;simp only[look];rw[if_neg (fun e=>h.1 e.symm)];exact ih h.2
theorem wT {α β:Type}{f g:α→Option β}:∀{l:List α},(∀x,x∈l→f x=g x)→l.filterMap f=l.filterMap g
 | [],_=>rfl
 |x::r,h=>by simp only[List.filterMap_cons,h x (by simp),wT (l:=r) fun y F=>h y (by simp[F])]
instance:Inhabited aJ:=⟨⟨none,.lenC 0,none⟩⟩
theorem dB (hm:P.follows .mixedOrders=true):iU P (bE P):=by
 intro C id ops aops fl K Q σ a w S ρ κ hd hc hen hQ hv hok;unfold bE at hd;rw[hc] at hd;simp only at hd;split at hd
 ·rename_i hop;obtain rfl:=Option.some.inj hd;simp only[aK6,Bool.and_eq_true,List.all_eq_true] at hop;obtain⟨hnt,hback,hpairs⟩:=hop;have hnt:=Nat.le_of_ble_eq_true hnt
  have hset0:∀(k:Nat) (x:aJ) (d:Nat),aops[k]? = some x→x.dst=some d→d+2000000∈aEW ops (aops.map aJ.bare)++aEc P ops (aops.map aJ.bare)→∃k' x',aops[k']? = some x'∧x'.dst=some d∧setB ops k'=true:=by
   intro k x d hx hd hm
   have hdn:∀(k:Nat) (d:Nat),((aops.map aJ.bare)[k]?).bind (·.dst)=some d→d<1000000:=by
    intro k d hd
    have hkl:k<aops.length:=by
     rcases Nat.lt_or_ge k aops.length with h|h
     ·exact h
     ·simp[h] at hd
    obtain⟨_,g2⟩:=kM hc;obtain⟨o,q1,q2⟩:=g2 k aops[k] (by simp[hkl]);obtain⟨_,h2,h3,_⟩:=iT q2
    have:aops[k].dst=some d:=by
     have e:((aops.map aJ.bare)[k]?).bind (·.dst)=aops[k].dst:=by simp[hkl,(bC aops[k]).2.1]
     rw[←e];exact hd
    have hlt:d<C.nt:=h3 d (h2.trans this);omega
   rcases List.mem_append.1 hm with hm|hm
   ·exfalso;simp only[aEW,List.mem_eraseDups,List.mem_flatMap,List.mem_filter] at hm;obtain⟨p,_,hp⟩:=hm;rcases List.mem_append.1 hp with hp|hp
    ·rcases List.mem_append.1 hp with hp|hp
     ·have:=hdn _ _ (Option.mem_toList.1 hp);omega
     ·have:=hdn _ _ (Option.mem_toList.1 hp);omega
    ·split at hp
     ·split at hp
      ·rename_i x' y' hx' hy';unfold aEE at hp;rcases List.mem_append.1 hp with hp|hp
       ·split at hp
        ·split at hp
         ·rename_i d' hd';have:=hdn p.1 d' (by rw[hx'];exact hd');simp at hp;omega
         ·cases hp
        ·cases hp
       ·split at hp
        ·split at hp
         ·rename_i d' hd';have:=hdn p.2 d' (by rw[hy'];exact hd');simp at hp;omega
         ·cases hp
        ·cases hp
      ·cases hp
     ·cases hp
   ·simp only[aEc,List.mem_filterMap,List.mem_range,List.length_map] at hm;obtain⟨i,hi,hm⟩:=hm;split at hm
    ·rename_i o ho;split at hm
     ·rename_i d' hd';split at hm
      ·rename_i hw;simp only[Option.some.injEq] at hm;have hdd:d'=d:=by omega
       simp only[Bool.and_eq_true] at hw
       obtain ⟨x',hx',rfl⟩:∃x',aops[i]? = some x'∧x'.bare=o:=by
        rw[List.getElem?_map] at ho;exact Option.map_eq_some_iff.1 ho
       exact⟨i,x',hx',by rw[←(bC x').2.1,hd',hdd],hw.2⟩
      ·cases hm
     ·cases hm
    ·cases hm
  obtain⟨g1,g2⟩:=kM hc;have hlen:ops.size=aops.length:=by simpa using g1
  have hmem:∀k i,k<i→i<ops.size→aB7 ops k i=true→(k,i)∈pU ops.size ops:=by
   intro k i hk hi hf;simp only[pU,List.mem_flatMap,List.mem_range,List.mem_filterMap];exact⟨i,hi,k,hk,by rw[if_pos hf]⟩
  let F:Nat→Prop:=fun k=>∃p,p∈pU ops.size ops∧(aBO (aops.map aJ.bare) p.1 p.2||zU ops (aops.map aJ.bare) p.1 p.2)=true∧aAr ops ops.size p.1 p.2=false∧(p.1=k∨p.2=k)
  have bareAt:∀(i:Nat) (x:aJ),aops[i]? = some x→(aops.map aJ.bare)[i]? = some x.bare:=by
   intro i x hx;simp[hx]
  have hfl:∀(k:Nat) (x:aJ) (d:Nat),F k→aops[k]? = some x→x.dst=some d→d∈aEW ops (aops.map aJ.bare)++aEc P ops (aops.map aJ.bare):=by
   rintro k x d ⟨p,hp,hpp,hpa,hpk⟩ hx hd;refine List.mem_append_left _ ?_;simp only[aEW,List.mem_eraseDups,List.mem_flatMap,List.mem_filter];refine⟨p,⟨hp,hpp⟩,?_⟩;have:((aops.map aJ.bare)[k]?).bind (·.dst)=some d:=by rw[bareAt k x hx];simp[(bC x).2.1,hd]
   rcases hpk with h|h
   ·rw[h,this];simp
   ·rw[h,this];simp
  have hmk:∀(k i:Nat) (x y:aJ) (d:Nat),(k,i)∈pU ops.size ops→zU ops (aops.map aJ.bare) k i=true→aops[k]? = some x→aops[i]? = some y→d∈aEE x.bare y.bare→d∈aEW ops (aops.map aJ.bare)++aEc P ops (aops.map aJ.bare):=by
   intro k i x y d hp hpp hx hy hd;refine List.mem_append_left _ ?_;simp only[aEW,List.mem_eraseDups,List.mem_flatMap,List.mem_filter];refine⟨(k,i),⟨hp,by rw[hpp,Bool.or_true]⟩,?_⟩;simp only[bareAt k x hx,bareAt i y hy,hpp,if_true];simp[hd]
  simp only[aB8,Bool.and_eq_true,List.all_eq_true] at hen
  have hjunk:∀(k:Nat) (x:aJ) (d:Nat),F k→aops[k]? = some x→x.dst=some d→look σ.s d=.junk:=fun k x d hF hx hd =>
   aHx (by simpa using hen.1 d (hfl k x d hF hx hd))
  have hbor:∀(k:Nat) (x:aJ),F k→aops[k]? = some x→dZ x.bare=true→dZ x=true:=by
   intro k' x hF hx hfr
   have hds:uX x.bare.op=false→x.dst.isSome=true:=by
    intro hi;simp only[dZ,Bool.and_eq_true,Bool.or_eq_true,hi,(bC x).2.1,Bool.false_eq_true,false_or] at hfr;exact hfr.2
   have hsl:∀k n z ps,x.op≠.bsliceC k n z ps:=by
    intro k n z ps e;obtain⟨d,hd⟩:=Option.isSome_iff_exists.1 (hds (by rw[(bC x).2.2.2,e];rfl));have h1:=hen.2 x (List.mem_of_getElem? hx);rw[e,hd] at h1;have h2:=hfl k' x d hF hx hd;simp[h2] at h1
   refine aFT hfr (fun f args bor e=>?_) hsl;obtain⟨d,hd⟩:=Option.isSome_iff_exists.1 (hds (by rw[(bC x).2.2.2,e];rfl));have h1:=hen.2 x (List.mem_of_getElem? hx);rw[e,hd] at h1;have h2:=hfl k' x d hF hx hd;simp only[Bool.or_eq_true,List.isEmpty_iff,Bool.not_eq_true',List.contains_eq_mem,decide_eq_false_iff_not,decide_eq_true_eq] at h1;rcases h1 with(h1|h1)|h1
   ·exact h1
   ·exact absurd h2 h1
   ·exfalso;obtain⟨k2,x2,g1,g2,g3⟩:=hset0 _ x d hx hd h1;obtain⟨⟨ka,ia⟩,hp,hpp,hpa,hpk⟩:=hF
    have hu:vF (aops.map aJ.bare) ka=true∧vF (aops.map aJ.bare) ia=true:=by
     rw[Bool.or_eq_true] at hpp;rcases hpp with hpp|hpp
     ·simp only[aBO] at hpp;split at hpp
      ·simp only[Bool.and_eq_true] at hpp;exact⟨hpp.1.2,hpp.2⟩
      ·cases hpp
     ·simp only[zU] at hpp;split at hpp
      ·simp only[Bool.and_eq_true] at hpp;exact⟨hpp.1.1.2,hpp.1.2⟩
      ·cases hpp
    have huk:vF (aops.map aJ.bare) k'=true:=by
     rcases hpk with h|h
     ·simp only at h;rw[←h];exact hu.1
     ·simp only at h;rw[←h];exact hu.2
    unfold vF at huk;have e1:((aops.map aJ.bare)[k']?).bind (·.dst)=some d:=by rw[bareAt k' x hx];simp[(bC x).2.1,hd]
    have e2:((aops.map aJ.bare)[k2]?).bind (·.dst)=some d:=by rw[bareAt k2 x2 g1];simp[(bC x2).2.1,g2]
    rw[e1] at huk;simp only[List.all_eq_true,List.mem_range,List.length_map] at huk;have hq:=huk k2 (List.getElem?_eq_some_iff.1 g1).1;rw[e2] at hq;have hkk:k2=k':=by simpa using hq
    subst hkk;unfold setB at g3;have:=List.all_eq_true.1 g3 _ hp;simp only[hpa,Bool.or_false,Bool.not_eq_true',Bool.or_eq_false_iff,beq_eq_false_iff_ne] at this;rcases hpk with h|h
    ·exact this.1 h
    ·exact this.2 h
  have hno:∀(k:Nat) (x:aJ) (d:Nat),aops[k]? = some x→x.dst=some d→d+1000000∈aEW ops (aops.map aJ.bare)++aEc P ops (aops.map aJ.bare)→(∀g n a,x.op≠.load g n a)∧∀o a,x.op≠.fieldAddr o a:=by
   intro k x d hx hd hm;have h1:=hen.2 x (List.mem_of_getElem? hx);refine⟨fun g n a e=>?_,fun o a e=>?_⟩
   ·rw[e,hd] at h1;simp[hm] at h1
   ·rw[e,hd] at h1;simp[hm] at h1
  have hpair:∀k i,(k,i)∈pU ops.size ops→(aBO (aops.map aJ.bare) k i||zU ops (aops.map aJ.bare) k i)=true→aAr ops ops.size k i=false→∀(x y:aJ),aops[k]? = some x→aops[i]? = some y→(Pair x y∨aFh x y∨aFg x y)∧vF (aops.map aJ.bare) k=true∧vF (aops.map aJ.bare) i=true:=by
   intro k i hki h hpa x y hx hy;have hpp:=h;rw[Bool.or_eq_true] at h;rcases h with h|h
   ·simp only[aBO,bareAt k x hx,bareAt i y hy,Bool.and_eq_true,Bool.or_eq_true,oW] at h;refine⟨?_,h.1.2,h.2⟩;rcases h.1.1 with h1|h1
    ·exact .inl ⟨hbor k x ⟨_,hki,hpp,hpa,.inl rfl⟩ hx h1.1.1,hbor i y ⟨_,hki,hpp,hpa,.inr rfl⟩ hy h1.1.2,h1.2⟩
    ·right;left
     simp only[aK8,Bool.and_eq_true,oW,Bool.not_eq_true',(bC y).2.2.1,Option.isNone_iff_eq_none] at h1;obtain⟨⟨⟨⟨q1,q2⟩,q3⟩,q4⟩,q5⟩:=h1
     have q2':dZ y=false:=by
      obtain⟨d,op,g⟩:=y
      cases op<;>first
       |exact q2
       |(exfalso;revert q5;simp[aJ.bare,AOp.bare,AOp.bare0])
     refine⟨hbor k x ⟨_,hki,hpp,hpa,.inl rfl⟩ hx q1,q2',q3,q4,?_⟩;obtain⟨dy,opy,gy⟩:=y;obtain⟨dx,opx,gx⟩:=x;cases opy<;>simp only[aJ.bare,AOp.bare,AOp.bare0] at q5<;>try(cases q5;done)
     ·refine .inl ⟨_,_,_,rfl,?_⟩;cases opx<;>first|exact q5|simp[zT,AOp.bare,AOp.bare0] at q5
     ·right
      cases opx<;>simp only[AOp.bare,AOp.bare0] at q5<;>try(cases q5;done)
      exact⟨_,_,_,_,_,.inl rfl,.inl rfl⟩
     ·right
      cases opx<;>simp only[AOp.bare,AOp.bare0] at q5<;>try(cases q5;done)
      exact⟨_,_,_,_,_,.inr rfl,.inl rfl⟩
   ·have hN:=h;simp only[zU,bareAt k x hx,bareAt i y hy,Bool.and_eq_true,Bool.or_eq_true] at h;refine⟨?_,h.1.1.2,h.1.2⟩;rcases h.1.1.1 with h1|h1|h1
    ·right;right
     simp only[aKZ,Bool.and_eq_true,oW,Bool.not_eq_true',(bC y).2.2.1,(bC x).2.2.1,(bC y).2.1,Option.isNone_iff_eq_none] at h1;obtain⟨⟨⟨⟨⟨⟨⟨q1,q2⟩,q3⟩,q4⟩,q5⟩,q6⟩,q7⟩,q8⟩:=h1
     have kx:∃k b A X,x.op=.append k b A X∨x.op=.appendC k b A X:=by
      obtain⟨dx,opx,gx⟩:=x;cases opx<;>simp only[aJ.bare,AOp.bare,AOp.bare0] at q7<;>try(cases q7;done)
      ·exact⟨_,_,_,_,.inl rfl⟩
      ·exact⟨_,_,_,_,.inr rfl⟩
     have q1':dZ x=false:=by
      obtain⟨k',b',A',X',h|h⟩:=kx<;>simp only[dZ,h,nC,Bool.false_and]
     refine⟨q1',hbor i y ⟨_,hki,hpp,hpa,.inr rfl⟩ hy q2,q3,q4,q5,kx,.inr ?_⟩;obtain⟨dy,opy,gy⟩:=y;cases opy<;>simp only[aJ.bare,AOp.bare,AOp.bare0,aAX] at q8<;>first|rfl|(cases q8;done)
    ·right;left
     have hh:=h1;simp only[aJe,Bool.and_eq_true,oW,Bool.not_eq_true',(bC y).2.2.1,(bC x).2.1,Option.isNone_iff_eq_none] at h1;obtain⟨⟨⟨⟨⟨⟨q1,q2⟩,q3⟩,q4⟩,q6⟩,q7⟩,q8⟩:=h1;obtain⟨d,hdx⟩:=Option.isSome_iff_exists.1 q6;have hmark:=hno k x d hx hdx (hmk k i x y _ hki hN hx hy (by unfold aEE;rw[if_pos hh,(bC x).2.1,hdx];exact List.mem_append_left _ (List.mem_singleton.2 rfl)))
     have ky:∃k b A X,y.op=.append k b A X∨y.op=.appendC k b A X:=by
      obtain⟨dy,opy,gy⟩:=y;cases opy<;>simp only[aJ.bare,AOp.bare,AOp.bare0] at q7<;>try(cases q7;done)
      ·exact⟨_,_,_,_,.inl rfl⟩
      ·exact⟨_,_,_,_,.inr rfl⟩
     have q2':dZ y=false:=by
      obtain⟨k',b',A',X',h|h⟩:=ky<;>simp only[dZ,h,nC,Bool.false_and]
     refine⟨hbor k x ⟨_,hki,hpp,hpa,.inl rfl⟩ hx q1,q2',q3,q4,.inr ?_⟩;obtain⟨k',b',A',X',hky⟩:=ky;refine⟨k',b',A',X',.tmp 0,hky,.inr ?_⟩;obtain⟨dx,opx,gx⟩:=x;cases opx<;>simp only[aJ.bare,AOp.bare,AOp.bare0] at q8<;>try(cases q8;done)
     case load g n a=>exact absurd rfl (hmark.1 g n a)
     case fieldAddr o a=>exact absurd rfl (hmark.2 o a)
     case loadV g n a=>exact trivial
     case fieldV o a=>exact trivial
    ·right;right
     have hh:=h1;simp only[aIj,Bool.and_eq_true,oW,Bool.not_eq_true',(bC y).2.2.1,(bC x).2.2.1,(bC y).2.1,Option.isNone_iff_eq_none] at h1;obtain⟨⟨⟨⟨⟨⟨⟨q1,q2⟩,q3⟩,q4⟩,q5⟩,q6⟩,q7⟩,q8⟩:=h1;obtain⟨d,hdy⟩:=Option.isSome_iff_exists.1 q6;have hmark:=hno i y d hy hdy (hmk k i x y _ hki hN hx hy (by unfold aEE;rw[if_pos hh,(bC y).2.1,hdy];exact List.mem_append_right _ (List.mem_singleton.2 rfl)))
     have kx:∃k b A X,x.op=.append k b A X∨x.op=.appendC k b A X:=by
      obtain⟨dx,opx,gx⟩:=x;cases opx<;>simp only[aJ.bare,AOp.bare,AOp.bare0] at q7<;>try(cases q7;done)
      ·exact⟨_,_,_,_,.inl rfl⟩
      ·exact⟨_,_,_,_,.inr rfl⟩
     have q1':dZ x=false:=by
      obtain⟨k',b',A',X',h|h⟩:=kx<;>simp only[dZ,h,nC,Bool.false_and]
     refine⟨q1',hbor i y ⟨_,hki,hpp,hpa,.inr rfl⟩ hy q2,q3,q4,q5,kx,?_⟩;obtain⟨dy,opy,gy⟩:=y;cases opy<;>simp only[aJ.bare,AOp.bare,AOp.bare0] at q8<;>try(cases q8;done)
     case load g n a=>exact absurd rfl (hmark.1 g n a)
     case fieldAddr o a=>exact absurd rfl (hmark.2 o a)
     case loadV g n a=>subst q8;exact .inl (.inl ⟨_,_,rfl⟩)
     case fieldV o a=>exact .inl (.inr ⟨_,_,rfl⟩)
  have hplan:Plan P C ops aops F:=by
   refine⟨fun j ao hj=>?_,hlen,fun i o ho e he hb=>?_,fun k i hk hi hf hna=>?_,fun k hF x d hx hd j y hjk hy hyd=>?_⟩
   ·obtain⟨o,q1,q2⟩:=g2 j ao hj;exact⟨o,by simpa using q1,q2⟩
   ·simp only[aLc,List.all_eq_true,List.mem_range] at hback;have:=hback i (Array.getElem?_eq_some_iff.1 ho).1;rw[ho] at this;have:=Array.all_eq_true'.1 this e he;simpa[hb] using this
   ·have hm':=hmem k i hk hi hf
    have hpp:(aBO (aops.map aJ.bare) k i||zU ops (aops.map aJ.bare) k i)=true:=by
     have:=hpairs (k,i) hm';simp only[hna,Bool.or_false] at this;exact this
    exact⟨⟨_,hm',hpp,hna,.inl rfl⟩,⟨_,hm',hpp,hna,.inr rfl⟩,fun x y hx hy=>(hpair k i hm' hpp hna x y hx hy).1⟩
   ·obtain⟨⟨k',i'⟩,hp,hpp,hpa,hpk⟩:=hF
    have hlt:k'<aops.length∧i'<aops.length:=by
     simp only[pU,List.mem_flatMap,List.mem_range,List.mem_filterMap] at hp;obtain⟨i2,h1,k2,h2,h3⟩:=hp;split at h3
     ·simp only[Option.some.injEq,Prod.mk.injEq] at h3;omega
     ·cases h3
    have hu:=hpair k' i' hp hpp hpa aops[k'] aops[i'] (by simp[hlt.1]) (by simp[hlt.2])
    have hu:vF (aops.map aJ.bare) k=true:=by
     rcases hpk with h|h
     ·simp only at h;subst h;exact hu.2.1
     ·simp only at h;subst h;exact hu.2.2
    unfold vF at hu;have e1:((aops.map aJ.bare)[k]?).bind (·.dst)=some d:=by rw[bareAt k x hx];simp[(bC x).2.1,hd]
    have e2:((aops.map aJ.bare)[j]?).bind (·.dst)=some d:=by rw[bareAt j y hy];simp[(bC y).2.1,hyd]
    rw[e1] at hu;simp only[List.all_eq_true,List.mem_range,List.length_map] at hu;have hjl:=(List.getElem?_eq_some_iff.1 hy).1;have:=hu j hjl;rw[e2] at this;simp[hjk] at this
  have hok':OK C σ.f a {w with drawn:=w.drawn+1} S ρ κ:=hok.ext (Ext.of_heap rfl rfl rfl);refine wp_region_any hm ?_;refine aLV hplan hQ ops.size (List.range ops.size) _ σ a _ S ρ κ (by simp) List.pairwise_lt_range (by simp) (fun i=>?_) (fun i _ hF x d hx hd=>hjunk i x d hF hx hd) (fun j o ho hl=>?_) ?_ hok'
  ·simp only[List.mem_range];constructor
   ·intro h;exact⟨h,by simp[h]⟩
   ·exact fun h=>h.1
  ·exfalso;have hj:=(Array.getElem?_eq_some_iff.1 ho).1;simp[hj] at hl
  ·have e:atL aops (List.range ops.size)=aops:=by
    rw[hlen];unfold atL
    have:∀(l:List aJ) (k:Nat),(List.range' k l.length).filterMap (fun i=>(List.replicate k default++l)[i]?)=l:=by
     intro l
     induction l with
     |nil=>intro k;simp
     | cons x r ih =>
      intro k;rw[List.length_cons,List.range'_succ,List.filterMap_cons];have h1:(List.replicate k default++x::r)[k]? = some x:=by simp
      rw[h1];have:=ih (k+1);rw[show List.replicate k (default:aJ)++x::r=(List.replicate k default++[x])++r by simp]
      have h2:∀i,i∈List.range' (k+1) r.length→((List.replicate k (default:aJ)++[x])++r)[i]? = (List.replicate (k+1) default++r)[i]?:=by
       intro i hi;have:=(List.mem_range'_1.1 hi).1;rw[List.getElem?_append_right (by simp;omega),List.getElem?_append_right (by simp;omega)];simp
      rw[wT h2];simp only;exact congrArg (x :: ·) this
    have:=this aops 0;simp only[List.replicate_zero,List.nil_append] at this;rw[List.range_eq_range',this]
   rw[e];exact aH0 aops σ hv
 ·cases hd
def bX (P:Program) (f:FuncId) (fn:Func) (ac:aF):Prop:=
 P.funcs[f]? = some fn∧(fn.body.bind (bF P fn.ntmps (bE P)))=some ac.bare∧(fn.name != "runtime.NumGoroutine")=true
theorem bX.fn {f:FuncId}{fn:Func}{ac:aF} (h:bX P f fn ac) (hm:P.follows .mixedOrders=true) {hin:List Blk}{args:List AV}{r:AV}{G:List (Option Blk)} (nt:Nat) (rs:List ResultVar) (B:List Name) (F:List Blk) (J:fn.ntmps=nt) (L:fn.results.toList=rs)
  (ho:G=F.map some) (H:args.length≤nt) (I:nodupB B=true) (Y:∀j,j<hin.length→B[j]? = some (.b j))
  (hw:∀C:Ctx,wpc P C (bE P) ac (aBc P rs B r F) (fun e σ=>match e with|.ret=>aBc P rs B r F σ|.exit _=>False) ⟨ini 0 args,aAF 0 hin⟩) :
  Fn P f hin args r G:=by
 subst J;subst L;subst ho;obtain⟨O,h2,U⟩:=h;obtain⟨M,hb,hc⟩:=Option.bind_eq_some_iff.1 h2;exact Fn.intro (dB hm) B O hb (by simpa using U) hc H (rW I) Y fun C _=>hw C
end
end Go.Vs
