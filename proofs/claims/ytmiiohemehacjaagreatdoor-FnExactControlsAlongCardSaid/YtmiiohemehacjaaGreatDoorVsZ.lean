/- A region whose order is open: every order gives what the text's order gives. -/
import Derived.Test.YtmiiohemehacjaaGreatDoorVsX
set_option linter.all false
set_option maxHeartbeats 8000000
namespace Go.Vs
section
variable [Envs]
variable {P:Program}{C:Ctx}{a:Act}{w:World}{S:Nat->Prop}{ρ:Name->Option Nat}{κ:Name->Nat}
def tmpsOf:List Operand->List Nat
 | []=>[]
 |.tmp t::r=>t::tmpsOf r
 |_::r=>tmpsOf r
theorem vW:∀{l:List Operand}{t:Nat},t∉tmpsOf l->∀o,o∈l->o≠.tmp t
 | [],_,_,o,ho=>by cases ho
 | x::r,t,h,o,ho=>by
  rcases List.mem_cons.1 ho with rfl|ho
  .rintro rfl;simp[tmpsOf] at h
  .refine vW (l:=r) (λh'=>h ?_) o ho;cases x<;>simp[tmpsOf,h']
def nH (y:aJ) (t:Nat):Bool:=(tmpsOf (aM y.op)).contains t||(match y.guard with|some (g,_)=>g==t|none=>false)
def kH (x y:aJ):Bool:=
 (match x.dst with|some d=>!nH y d&&!(y.dst==some d)|none=>true)&&(match y.dst with|some d=>!nH x d|none=>true)
theorem aFk {x:aJ}{d:Option Nat}{δ:Dl}{σ:FSt}{b:Bool} (h:∀t,d=some t->∀g w,x.guard=some (g,w)->g≠t):runs x (app d δ σ) b↔runs x σ b:=by
 unfold runs;split
 .exact Iff.rfl
 .rename_i g F H;rw[qH λe=>h g e g F H rfl]
theorem aJd {x y:aJ}{σ:FSt}{O U:Dl} (hx:yE P x σ O) (hy:yE P y (app x.dst O σ) U) (hs:WF σ) (fx:dX x=true) (fy:dX y=true) (I:kH x y=true)
  (j1:∀t,x.dst=some t->σ.s t=.junk) (j2:∀t,y.dst=some t->σ.s t=.junk) :
  yE P y σ U∧yE P x (app y.dst U σ) O∧app x.dst O (app y.dst U σ)=app y.dst U (app x.dst O σ):=by
 simp only[kH,Bool.and_eq_true] at I
 have Y:∀t,x.dst=some t->nH y t=false∧y.dst≠some t:=λt H=>by
  have:=I.1;rw[H] at this;simpa using this
 have b0:∀t,y.dst=some t->nH x t=false:=λt H=>by
  have:=I.2;rw[H] at this;simpa using this
 have F:∀{z:aJ}{t:Nat},nH z t=false->(∀o,o∈aM z.op->o≠.tmp t)∧∀g w,z.guard=some (g,w)->g≠t:=by
  intro z t h;simp only[nH,Bool.or_eq_false_iff] at h;refine⟨vW (by simpa using h.1),λg w hg=>?_⟩;have:=h.2;rw[hg] at this;simpa using this
 obtain⟨bx,rx,hx⟩:=hx;obtain⟨J,ry,hy⟩:=hy;rw[aFk λt H=>(F (Y t H).1).2] at ry;have ha:∀δ,runs x (app y.dst δ σ) bx:=fun δ=>(aFk λt H=>(F (b0 t H)).2).2 rx;simp only[dX,Bool.and_eq_true] at fx fy
 have L:∀(b:Bool) (z:aJ),qG z.op=true->qG (aCB b z)=true:=by
  intro b z h;cases b
  .rfl
  .exact h
 have ops:∀(b:Bool) (z:aJ) (t:Nat),(∀o,o∈aM z.op->o≠.tmp t)->∀o,o∈aM (aCB b z)->o≠.tmp t:=by
  intro b z t h o Z;cases b
  .simp only[aCB,aHK,aM,Bool.false_eq_true,if_false,List.mem_singleton] at Z;subst Z;simp
  .exact h o Z
 obtain⟨h1,h2,h3⟩:=aKV (x:=aCB bx x) (y:=aCB J y) hx hy hs (L _ _ fx.1) (L _ _ fy.1) (λt H=>ops _ _ t (F (Y t H).1).1) (λt H=>ops _ _ t (F (b0 t H)).1) (λt H=>(Y t H).2) j1 j2;exact⟨⟨J,ry,h1⟩,⟨bx,ha _,h2⟩,h3⟩
def atL (aops:List aJ) (r:List Nat):List aJ:=r.filterMap λi=>aops[i]?
def Real (C:Ctx) (σ:FSt):Prop:=∃(σl:St) (a:Act) (w:World) (S:Nat->Prop) (ρ:Name->Option Nat) (κ:Name->Nat),σl.f=σ∧OK C σl.f a w S ρ κ
structure Pair (x y:aJ):Prop where
 fx:dX x=true
 fy:dX y=true
 ap:kH x y=true
theorem aFt {ops:Array Oper}{i:Nat}{o:Oper}{ao:aJ}{σ:FSt}{δ:Dl} (U:ops[i]? = some o) (L:nD P C.nt ops o=some ao.bare) (Y:Real C σ) (O:yE P ao σ δ):Real C (app ao.dst δ σ):=by
 obtain⟨I,a,w,S,ρ,κ,rfl,F⟩:=Y;have Z:=aJs (P:=P) (o:=ao) (σ:=canon I) (δ:=δ) (aAR I) (by rw[lJ];exact O);obtain⟨J,w',σ',S',ρ',κ',H,h2⟩:=aHw (aHT (Q:=λ_ _ _=>False) U L Z (by rw[lJ];exact F));rw[lJ] at H;exact⟨σ',J,w',S',ρ',κ',H,h2⟩
/-! ## a value that is copied, and a write behind it -/
def aEV:AOp->Option (Operand×Option Nat)
 |.mv o=>some (o,none)
 |.extract o i=>some (o,some i)
 |_=>none
def aAx:AOp->Bool
 |.mv _=>true
 |.extract _ _=>true
 |.bin _ _ _=>true
 |.conv _ _=>true
 |_=>false
def aI4:AOp->Prop
 |.loadV _ _ _=>True
 |.fieldV _ _=>True
 |_=>False
structure aGs (x y:aJ):Prop where
 fx:dX x=true
 fy:dX y=false
 g:y.guard=none
 ap:kH x y=true
 k:(∃k A X,y.op=.store k A X∧aAx x.op=true)∨∃k b A X o,(y.op=.append k b A X∨y.op=.appendC k b A X)∧(x.op=.mv o∨aI4 x.op)
theorem aGa {d:Option Nat}{op:AOp}{o:Operand}{oi:Option Nat}{σ σ':FSt}{δ:Dl} (F:aEV op=some (o,oi)) (U:Eff P d op σ δ) (e:evO σ'.s o=evO σ.s o):Eff P d op σ' δ∧δ.nb=[]∧δ.fz=false:=by
 cases U with
 | rd v h1 h2 h3 =>
  refine⟨?_,rfl,rfl⟩;cases op<;>simp only[aEV,Option.some.injEq,Prod.mk.injEq] at F<;>try(cases F;done)
  case mv x =>
   obtain⟨rfl,rfl⟩:=F;have H:=h2 (λu=>u=v) rfl;simp only[rd] at H;refine .rd v rfl (λK I=>?_) λp J _=>?_
   .simp only[rd];rw[e,H];exact I
   .have:=J x (by simp[aM]);rwa [e,H] at this
  case extract x i =>
   obtain⟨rfl,rfl⟩:=F;have H:=h2 (λu=>u=v) rfl;simp only[rd] at H;split at H
   .rename_i c O;refine .rd v rfl (λK I=>?_) λp J _=>?_
    .simp only[rd];rw[e,O];exact⟨H.1,by rw[H.2];exact I⟩
    .have:=J x (by simp[aM]);rw[e,O] at this;rw[←H.2];exact Nm.getD this.aB9 _
   .exact H.elim
 | al d' hd v b h1 hf hn h2 h3 =>
  exfalso;have:=h1 (λ_ _=>True) trivial;cases op<;>simp only[aEV] at F<;>first|(cases F;done)|exact this.elim
 | call d' hd f args hop' g caps hg ys L hm r hout fz hfn hflat hfr =>
  subst hop';simp[aEV] at F
theorem aKW {d:Option Nat}{op:AOp}{σ σ':FSt}{δ:Dl} (F:aAx op=true) (O:Eff P d op σ δ) (e:∀o,o∈aM op->evO σ'.s o=evO σ.s o):Eff P d op σ' δ∧δ.nb=[]∧δ.fz=false:=by
 cases O with
 | rd v h1 h2 h3 =>
  refine⟨?_,rfl,rfl⟩;cases op<;>simp only[aAx] at F<;>try(cases F;done)
  case mv x =>
   exact(aGa (o:=x) (oi:=none) rfl (.rd v h1 h2 h3) (e x (by simp[aM]))).1
  case extract x i =>
   exact(aGa (o:=x) (oi:=some i) rfl (.rd v h1 h2 h3) (e x (by simp[aM]))).1
  case bin b x y =>
   have H:=h2 (λu=>u=v) rfl
   have I:∃z,v=.v z:=by
    simp only[rd] at H;split at H
    .unfold aGm at H;cases b<;>exact⟨_,H.2.symm⟩
    .exact H.elim
   obtain⟨z,rfl⟩:=I;refine .rd _ rfl (λK J=>?_) λp _ _=>.v _ _;have:=h2 K J;simp only[rd] at this⊢;rw[e x (by simp[aM]),e y (by simp[aM])];exact this
  case conv k x =>
   have H:=h2 (λu=>u=v) rfl
   have I:∃z,v=.v z:=by
    simp only[rd] at H;split at H
    .exact⟨_,H.symm⟩
    .exact H.elim
   obtain⟨z,rfl⟩:=I;refine .rd _ rfl (λK J=>?_) λp _ _=>.v _ _;have:=h2 K J;simp only[rd] at this⊢;rw[e x (by simp[aM])];exact this
 | al d' hd v b h1 hf hn h2 h3 =>
  exfalso;have:=h1 (λ_ _=>True) trivial;cases op<;>simp only[aAx] at F<;>first|(cases F;done)|exact this.elim
 | call d' hd f args hop' g caps hg ys L hm r hout fz hfn hflat hfr =>
  subst hop';simp[aAx] at F
theorem aDc {σ:St} (H:Canon σ) (on:Option Name):Canon (aP on σ):=by
 cases on with
 |none=>exact H
 | some n =>
  refine⟨λp F=>?_,λp F=>?_⟩
  .simp only[aP,eU] at F⊢;obtain⟨q,I,rfl⟩:=List.mem_map.1 F;simp only;rw[mQ (scr n) (by simp[scr,AV.has]),H.1 q I]
  .simp only[aP,eU] at F⊢;obtain⟨q,I,rfl⟩:=List.mem_map.1 F;obtain⟨J,h2⟩:=List.mem_filter.1 I;simp only[Bool.not_eq_true',decide_eq_false_iff_not] at h2;simp only;rw[sU,if_neg h2,H.2 q J];rfl
theorem dU {σ:St}{on:Option Name} (t:Nat):look (aP on σ).s t=match on with|some n=>scr n (look σ.s t)|none=>look σ.s t:=by
 cases on with
 |none=>rfl
 | some n =>
  simp only[aP,eU];rw[mQ (scr n) (by simp[scr,AV.has])]
theorem dQ {σ:St}{on:Option Name} (m:Name):aB (aP on σ).h m=match on with|some n=>if m=n then none else(aB σ.h m).map (aA3 n)|none=>aB σ.h m:=by
 cases on with
 |none=>rfl
 | some n =>
  simp only[aP,eU];rw[sU]
theorem aJl {k:Nat}{h:Name->Option Blk}{x:AV}{on:Option Name}{l:List (List AV)} (F:aBL k h x=some (on,l)):∀n,on=some n->∃k l z,h n=some (.arr k l z):=by
 intro n H;subst H;unfold aBL at F;split at F
 .simp at F
 .split at F
  .rename_i J L z I;split at F
   .simp only[Option.some.injEq,Prod.mk.injEq] at F;obtain⟨rfl,_⟩:=F;exact⟨_,_,_,I⟩
   .cases F
  .cases F
 .cases F
def eY:Option Name->AV->AV
 |some n,x=>scr n x
 |none,x=>x
theorem aJZ (on:Option Name) (x:Value):eY on (.v x)=.v x:=by cases on<;>simp[eY,scr,AV.has]
theorem aA2 (on:Option Name):eY on .junk=.junk:=by cases on<;>simp[eY,scr,AV.has]
theorem zO {on:Option Name}:∀{l:List AV},l.all rR=true->l.map (eY on)=l
 | [],_=>rfl
 | x::r,h=>by
  simp only[List.all_cons,Bool.and_eq_true] at h;rw[List.map_cons,zO h.2];cases x<;>simp[rR] at h;rw[aJZ]
theorem aBA {on:Option Name}:∀{l:List AV},(l.map (eY on)).all rR=true->l.map (eY on)=l
 | [],_=>rfl
 | x::r,h=>by
  simp only[List.map_cons,List.all_cons,Bool.and_eq_true] at h;rw[List.map_cons,aBA h.2];congr 1;cases on with
  |none=>rfl
  | some n =>
   simp only[eY,scr] at h⊢;split
   .rename_i F;rw[if_pos F] at h;simp[rR] at h
   .rfl
theorem zX {n:Name}:∀{l:List AV},l.all rR=true->oD n l=false
 | [],_=>rfl
 | x::r,h=>by
  simp only[List.all_cons,Bool.and_eq_true] at h;simp only[oD,zX h.2,Bool.or_false];cases x<;>simp[rR] at h;rfl
theorem aAn {on:Option Name}{m:Name}{e c:Nat} (h:∀n,on=some n->m≠n):eY on (.ptr m e c)=.ptr m e c:=by
 cases on with
 |none=>rfl
 |some n=>simp[eY,scr,AV.has,h n rfl]
theorem aAm {on:Option Name}{x:AV}{m:Name}{e c:Nat} (h:eY on x=.ptr m e c):x=.ptr m e c∧∀n,on=some n->m≠n:=by
 cases on with
 |none=>exact⟨h,λn h=>by cases h⟩
 | some n =>
  simp only[eY,scr] at h;split at h
  .cases h
  .rename_i F;subst h;refine⟨rfl,λI H=>?_⟩;obtain rfl:=Option.some.inj H;simpa[AV.has] using F
theorem aBX (f:AV->AV) (cs:List AV) (z:Bool) (e:Nat):(Blk.var (cs.map f) z).row e=((Blk.var cs z).row e).map f:=by cases e<;>rfl
theorem aEz {on:Option Name}{g:Bool}{l:List AV} (h:(!g||l.all rR)=true):AV.mk g (l.map (eY on))=eY on (AV.mk g l):=by
 cases g with
 | false =>
  simp only[AV.mk,Bool.false_eq_true,if_false];cases l with
  |nil=>exact(aA2 on).symm
  |cons x r=>rfl
 | true =>
  simp only[Bool.not_true,Bool.false_or] at h;simp only[AV.mk,if_true];rw[zO h];cases on with
  |none=>rfl
  |some n=>simp[eY,scr,AV.has,zX h]
theorem aIW {d:Option Nat}{op:AOp}{σ τ:FSt}{δ:Dl}{on:Option Name} (hj:aI4 op) (he:Eff P d op σ δ)
  (Z:∀o,o∈aM op->evO τ.s o=eY on (evO σ.s o)) (hc:∀n,on=some n->∃k l z,σ.h n=some (.arr k l z))
  (hh:∀m c z,σ.h m=some (.var c z)->τ.h m=some (.var (c.map (eY on)) z)):Eff P d op τ ⟨eY on δ.v,[],false,[],λ_=>False⟩:=by
 have U:∀{m:Name}{c:List AV}{z:Bool},σ.h m=some (.var c z)->∀n,on=some n->m≠n:=by
  intro m c z hm n hn e;obtain⟨k,l,z',h⟩:=hc n hn;rw[←e,hm] at h;cases h
 cases op<;>simp only[aI4] at hj
 case loadV g k a =>
  cases he with
  | rd v h1 h2 h3 =>
   have F:=h2 (λu=>u=v) rfl;have J:=Z a (by simp[aM]);simp only[rd] at F;split at F
   .rename_i m e c hx;split at F
    .rename_i cs z Y;rw[hx,aAn (U Y)] at J;have I:=hh m cs z Y;obtain⟨⟨hl,hp⟩,rfl⟩:=F
     have em:((((Blk.var (cs.map (eY on)) z).row e).drop c).take k)=((((Blk.var cs z).row e).drop c).take k).map (eY on):=by
      rw[aBX,List.map_take,List.map_drop]
     have ep:((!g||(((((Blk.var cs z).row e).drop c).take k).map (eY on)).all rR)=true):=by
      cases g with
      |false=>rfl
      | true =>
       simp only[Bool.not_true,Bool.false_or] at hp⊢;rw[zO hp];exact hp
     refine .rd _ rfl (λK hK=>?_) λp O hq=>?_
     .simp only[rd,J,I];refine⟨⟨by rw[aBX,List.length_map];exact hl,by rw[em];exact ep⟩,?_⟩;rw[em,aEz hp];exact hK
     .have H:=O a (by simp[aM]);rw[J] at H;rw[←aEz hp,←em];exact NmL.mk (NmL.take (NmL.drop ((hq m _ H.gJ I).row e) _) _)
    .exact F.elim
   .exact F.elim
  |al d' hd v b h1 hf hn h2 h3=>exact(h1 (λ_ _=>True) trivial).elim
  |call d' hd f args hop' g caps hg ys L hm r hout fz hfn hflat hfr=>cases hop'
 case fieldV off x =>
  cases he with
  | rd v h1 h2 h3 =>
   have F:=h2 (λu=>u=v) rfl;have J:=Z x (by simp[aM]);simp only[rd] at F;split at F
   .rename_i m e c hx;split at F
    .rename_i cs z Y;rw[hx,aAn (U Y)] at J;have I:=hh m cs z Y;subst F;simp only[aAn (U Y)];refine .rd _ rfl (λK hK=>?_) λp O hq=>?_
     .simp only[rd,J,I];exact hK
     .have H:=O x (by simp[aM]);rw[J] at H;exact .ptr _ _ _ _ H.gJ
    .exact F.elim
   .exact F.elim
  |al d' hd v b h1 hf hn h2 h3=>exact(h1 (λ_ _=>True) trivial).elim
  |call d' hd f args hop' g caps hg ys L hm r hout fz hfn hflat hfr=>cases hop'
theorem aJe {d:Option Nat}{op:AOp}{σ:FSt}{δ:Dl} (F:wH op=true) (H:Eff P d op σ δ):δ.nb=[]∧δ.fz=false:=by
 cases H with
 |rd v h1 h2 h3=>exact⟨rfl,rfl⟩
 | al d' hd v b h1 hf hn h2 h3 =>
  exfalso;have:=h1 (λ_ _=>True) trivial;cases op<;>simp only[wH] at F<;>first|(cases F;done)|exact this.elim
 |call d' hd f args hop' g caps hg ys L hm r hout fz hfn hflat hfr=>subst hop';cases F
theorem aI9 {x y:aJ}{σ:FSt}{F J:St}{δx:Dl}{K:FSt->Prop} (hx:yE P x σ δx) (hp:aGs x y) (h0:F.f=σ) (j1:∀t,x.dst=some t->σ.s t=.junk) (hl:J.f=app x.dst δx σ)
  (I:vc P (fun σ'=>K σ'.f) [y] J):∃σ2:St,σ2.f=σ∧vc P (fun σ'=>∃δ',yE P x σ'.f δ'∧K (app x.dst δ' σ'.f)) [y] σ2:=by
 subst h0;have hw:=hp.ap;simp only[kH,Bool.and_eq_true] at hw
 have a0:∀t,x.dst=some t->nH y t=false∧y.dst≠some t:=λt ht=>by
  have:=hw.1;rw[ht] at this;simpa using this
 have b0:∀t,y.dst=some t->nH x t=false:=λt ht=>by
  have:=hw.2;rw[ht] at this;simpa using this
 have ho:∀{z:aJ}{t:Nat},nH z t=false->(∀o,o∈aM z.op->o≠.tmp t)∧∀g w,z.guard=some (g,w)->g≠t:=by
  intro z t h;simp only[nH,Bool.or_eq_false_iff] at h;refine⟨vW (by simpa using h.1),λg w hg=>?_⟩;have:=h.2;rw[hg] at this;simpa using this
 obtain⟨b,rx,hj⟩:=hx
 have qe:wH (aCB b x)=true:=by
  cases b
  .rfl
  .rcases hp.k with⟨_,_,_,_,h⟩|⟨_,_,_,_,o,_,h⟩
   .show wH x.op=true
    revert h;cases x.op<;>intro h<;>first|rfl|simp[aAx] at h
   .show wH x.op=true
    rcases h with h|h
    .rw[h];rfl
    .revert h;cases x.op<;>intro h<;>first|rfl|exact h.elim
 have hq:δx.nb=[]∧δx.fz=false:=aJe qe hj
 have hh:∀(d:Option Nat) (τ:FSt) (δ:Dl),δ.nb=[]->δ.fz=false->(app d δ τ).h=τ.h:=by
  intro d τ δ e1 e2
  funext n
  rw[zL,e1,e2];simp[aB]
 have es:∀t,look J.s t=(app x.dst δx F.f).s t:=λt=>congrFun (congrArg FSt.s hl) t
 have eh:aB J.h=aB F.h:=by
  have:=congrArg FSt.h hl;rw[hh _ _ _ hq.1 hq.2] at this;exact this
 have ev:∀z,z∈aM y.op->evO (look J.s) z=evO (look F.s) z:=by
  intro z hz
  have e:evO (look J.s) z=evO (app x.dst δx F.f).s z:=by
   cases z<;>first|rfl|exact es _
  rw[e];exact aCd λt ht=>(ho (a0 t ht).1).1 z hz
 simp only[vc,hp.g] at I;rcases hp.k with⟨k,A,X,hy,qo⟩|⟨k,qr,A,X,o',hy,O⟩
 .have qd:aAx (aCB b x)=true:=by
   cases b
   .rfl
   .exact qo
  rw[hy] at I ev;refine⟨F,rfl,?_⟩;simp only[vc,hp.g,hy];simp only[bC] at I⊢;refine⟨I.1,?_⟩;have I:=I.2;rw[ev A (by simp[aM]),ev X (by simp[aM]),eh] at I;split at I
  .rename_i n e c hA;split at I
   .rename_i Z cs hb qs;refine⟨I.1,?_⟩;have hK:=I.2
    have hs:((⟨J.s,hset n (Z.setRow e (lay (Z.row e) c cs)) J.h⟩:St)).f=app x.dst δx (⟨F.s,hset n (Z.setRow e (lay (Z.row e) c cs)) F.h⟩:St).f:=by
     have e1:(⟨J.s,hset n (Z.setRow e (lay (Z.row e) c cs)) J.h⟩:St).f.s=(app x.dst δx (⟨F.s,hset n (Z.setRow e (lay (Z.row e) c cs)) F.h⟩:St).f).s:=funext λt=>es t
     have e2:(⟨J.s,hset n (Z.setRow e (lay (Z.row e) c cs)) J.h⟩:St).f.h=(app x.dst δx (⟨F.s,hset n (Z.setRow e (lay (Z.row e) c cs)) F.h⟩:St).f).h:=by
      rw[hh _ _ _ hq.1 hq.2];simp only[St.f,wL,eh]
     exact congr (congrArg FSt.mk e1) e2
    refine⟨δx,⟨b,?_,?_⟩,by rw[←hs];exact hK⟩
    .unfold runs at rx⊢;exact rx
    .exact(aKW (σ':=(⟨F.s,hset n (Z.setRow e (lay (Z.row e) c cs)) F.h⟩:St).f) qd hj λ_ _=>rfl).1
   .exact I.elim
  .exact I.elim
 .have hr:∀(d:Nat),y.dst=some d->∀(v0:AV) (B:List (Name×Blk)->List (Name×Blk)) (on:Option Name),(∀h h',aB h=aB h'->aB (B h)=aB (B h'))->(∀h m,m≠.t d 0->aB (B h) m=aB h m)->aB (aP on J).h (.t d 0)=none->(∀n,on=some n->∃k l z,aB F.h n=some (.arr k l z))->
    K (⟨(d,v0)::(aP on J).s,B (aP on J).h⟩:St).f->∃δ',yE P x (⟨(d,v0)::(aP on (canon F)).s,B (aP on (canon F)).h⟩:St).f δ'∧K (app x.dst δ' (⟨(d,v0)::(aP on (canon F)).s,B (aP on (canon F)).h⟩:St).f):=by
   intro d hd v0 B on hB qh H he hK;have Y:∀t,look (canon F).s t=look F.s t:=λt=>congrFun (congrArg FSt.s (lJ F)) t;have ha:aB (canon F).h=aB F.h:=congrArg FSt.h (lJ F);have qj:∀t,x.dst=some t->d≠t:=λt ht e=>(a0 t ht).2 (by rw[hd,e])
   let τ:St:=⟨(d,v0)::(aP on (canon F)).s,B (aP on (canon F)).h⟩
   let v':AV:=match on with|some n=>scr n δx.v|none=>δx.v
   have hs:(⟨(d,v0)::(aP on J).s,B (aP on J).h⟩:St).f=app x.dst ⟨v',[],false,[],λ_=>False⟩ τ.f:=by
    have e1:(⟨(d,v0)::(aP on J).s,B (aP on J).h⟩:St).f.s=(app x.dst ⟨v',[],false,[],λ_=>False⟩ τ.f).s:=by
     funext t
     simp only[St.f,look,dU];by_cases ht:x.dst=some t
     .have h2:=qj t ht;rw[if_neg (λe=>h2 e.symm)];have e3:=es t;rw[ht] at e3⊢;rw[pR] at e3;rw[pR,e3];cases on<;>rfl
     .rw[qH ht];have e3:=es t;rw[qH ht] at e3;simp only[τ,look,dU,Y];rw[e3];rfl
    have e2:(⟨(d,v0)::(aP on J).s,B (aP on J).h⟩:St).f.h=(app x.dst ⟨v',[],false,[],λ_=>False⟩ τ.f).h:=by
     rw[hh _ _ _ rfl rfl];refine hB _ _ (funext λm=>?_);simp only[dQ,eh,ha]
    exact congr (congrArg FSt.mk e1) e2
   have hτ:∀z,z∈aM x.op->z≠.tmp d:=λz hz=>(ho (b0 d hd)).1 z hz;refine⟨⟨v',[],false,[],λ_=>False⟩,⟨b,?_,?_⟩,by show K (app x.dst _ τ.f);rw[←hs];exact hK⟩
   .unfold runs at rx⊢;split at rx
    .exact rx
    .rename_i g qf hg;have qb:=(ho (b0 d hd)).2 g qf hg;rcases rx with⟨c,hc,h4⟩|⟨⟨cs,hc⟩,h4⟩
     .refine .inl ⟨c,?_,h4⟩;simp only[St.f,look];rw[if_neg qb,dU,Y];simp only[St.f] at hc;rw[hc];cases on<;>simp[scr,AV.has]
     .refine .inr ⟨⟨cs,?_⟩,h4⟩;simp only[St.f,look];rw[if_neg qb,dU,Y];simp only[St.f] at hc;rw[hc];cases on<;>simp[scr,AV.has]
   .-- the copied value, behind the write
    have hk:(∃o2,aCB b x=.mv o2∧o2≠.tmp d)∨aI4 (aCB b x):=by
     cases b
     .exact .inl ⟨_,rfl,by simp⟩
     .rcases O with O|O
      .exact .inl ⟨o',O,hτ o' (by rw[O];simp[aM])⟩
      .exact .inr O
    rcases hk with hk|hlv
    rotate_left
    .have qi:b=true:=by
      cases b
      .exact hlv.elim
      .rfl
     subst qi;have qc:aI4 x.op:=hlv
     have h8:Eff P x.dst x.op τ.f ⟨eY on δx.v,[],false,[],λ_=>False⟩:=by
      refine aIW qc hj (λz hz=>?_) (λn hn=>?_) (λm c z hm=>?_)
      .have qq:=hτ z hz;show evO (look τ.s) z=eY on (evO (look F.s) z)
       revert hz;cases hxe:x.op<;>intro hz<;>simp only[hxe,aI4] at qc
       all_goals
        cases z with
        | tmp t =>
         have h6:t≠d:=λe=>qq (by rw[e]);simp only[evO,τ,look];rw[if_neg h6,dU,Y];cases on<;>rfl
        | const w =>
         simp only[evO];cases on with
         |none=>rfl
         | some n =>
          simp only[eY,scr];rw[if_neg];cases w<;>simp[AV.ofValue,AV.has];rename_i cs
          have:dJ (λm=>m=n) (List.map (λx=>AV.v x) (Array.toList cs)):=dJ.of_mem λx hx=>by
           obtain⟨y,_,rfl⟩:=List.mem_map.1 hx;exact Off.v _
          exact this n rfl
        |global g=>simp only[evO];exact(aA2 on).symm
        |func f=>simp only[evO];cases on<;>simp[eY,scr,AV.has,oD]
      .exact he n hn
      .have ql:m≠.t d 0:=by
        rintro rfl;rw[dQ,eh] at H;simp only[St.f] at hm;cases on with
        |none=>simp only at H;rw[hm] at H;cases H
        | some n =>
         obtain⟨k',l',z',hn⟩:=he n rfl;simp only at H;split at H
         .rename_i e;rw[←e,hm] at hn;cases hn
         .rw[hm] at H;cases H
       show aB τ.h m=_
       simp only[τ];rw[qh _ _ ql,dQ,ha];simp only[St.f] at hm;cases on with
       |none=>rw[show c.map (eY none)=c by rw[show eY none=id from rfl];simp];exact hm
       | some n =>
        obtain⟨k',l',z',hn⟩:=he n rfl;have qk:m≠n:=λe=>by rw[←e,hm] at hn;cases hn
        simp only;rw[if_neg qk,hm];rfl
     have qg:v'=eY on δx.v:=by cases on<;>rfl
     rw[qg];exact h8
    obtain⟨o2,hk,qm⟩:=hk;unfold EffS at hj⊢;rw[hk] at hj⊢;cases hj with
    | rd v h1 h2 h3 =>
     have U:=h2 (λu=>u=v) rfl;simp only[rd] at U
     have h9:evO τ.f.s o2=v':=by
      show evO (look τ.s) o2=v'
      cases o2 with
      | tmp t =>
       have h6:t≠d:=λe=>qm (by rw[e]);simp only[evO,τ,look];rw[if_neg h6,dU,Y];simp only[evO,St.f] at U;rw[U];cases on<;>rfl
      | const w =>
       simp only[evO] at U⊢;simp only[v'];rw[←U];cases on with
       |none=>rfl
       | some n =>
        simp only[scr];rw[if_neg];cases w<;>simp[AV.ofValue,AV.has];rename_i cs
        have:dJ (λm=>m=n) (List.map (λx=>AV.v x) (Array.toList cs)):=dJ.of_mem λx hx=>by
         obtain⟨y,_,rfl⟩:=List.mem_map.1 hx;exact Off.v _
        exact this n rfl
      | global g =>
       simp only[evO] at U⊢;simp only[v'];rw[←U];cases on<;>simp[scr,AV.has]
      | func f =>
       simp only[evO] at U⊢;simp only[v'];rw[←U];cases on<;>simp[scr,AV.has,oD]
     refine .rd v' rfl (λK hK=>?_) λp qn _=>?_
     .simp only[rd];rw[h9];exact hK
     .have:=qn o2 (by simp[aM]);rwa [h9] at this
    |al d' hd' v b h1 hf hn h2 h3=>exact(h1 (λ_ _=>True) trivial).elim
    |call d' hd' f args hop' g caps hg ys L hm r hout fz H hflat qa=>cases hop'
  have Y:∀t,look (canon F).s t=look F.s t:=λt=>congrFun (congrArg FSt.s (lJ F)) t;have ha:aB (canon F).h=aB F.h:=congrArg FSt.h (lJ F)
  have h7:∀z,evO (look (canon F).s) z=evO (look F.s) z:=by
   intro z;cases z<;>first|rfl|exact Y _
  have hu:∀(d:Nat),y.dst=some d->∀(on:Option Name),bX (.t d 0) (aP on J)=true->bX (.t d 0) (aP on (canon F))=true:=by
   intro d hd on hf
   have qa:gP (.t d 0) (aP on (canon F)).f:=by
    have h1:=dW hf;refine⟨⟨?_,h1.1.2⟩,λt=>?_,λm Z h5=>?_⟩
    .have:=h1.1.1;simp only[St.f,dQ] at this⊢;rw[ha,←eh];exact this
    .have:=h1.2.1 t;simp only[St.f,dU] at this⊢;rw[Y];by_cases ht:x.dst=some t
     .have:=j1 t ht;simp only[St.f] at this;rw[this];cases on with
      |none=>rfl
      |some n=>simp[scr,AV.has]
     .have e2:=es t;rw[qH ht] at e2;rw[e2] at this;exact this
    .refine h1.2.2 m Z ?_;simp only[St.f,dQ] at h5⊢;rw[ha,←eh] at h5;exact h5
   exact yY (aDc (aAR F) on) rfl qa
  refine⟨canon F,lJ F,?_⟩;rcases hy with hy|hy<;>rw[hy] at I ev
  all_goals
   cases hd:y.dst with
   |none=>rw[hd] at I;exact I.elim
   | some d =>
    rw[hd] at I;simp only[vc,hp.g,hy,hd];simp only[bC] at I⊢;rw[ev A (by simp[aM]),ev X (by simp[aM]),eh] at I;rw[h7 A,h7 X,ha];split at I
    .rename_i on l l' hA hX;obtain⟨⟨hf,qp⟩,hK⟩:=I;refine⟨⟨hu d hd on hf,qp⟩,?_⟩;have he:=aJl hA;have H:=xY hf
     first
      |exact hr d hd (.loc (.t d 0) 0 (l.length+l'.length)) (λh=>(.t d 0,.arr k (l++l') false)::h) on (λh h' e=>by funext m;simp only[aB,e]) (λh m hm=>by simp only[aB];rw[if_neg hm]) H he hK
      |exact hr d hd (.sl k (l++l')) (λh=>h) on (λh h' e=>e) (λh m hm=>rfl) H he hK
    .exact I.elim
theorem aLa {ops:Array Oper}{K:FSt->Prop}{y:aJ}:∀(F I:List aJ) (σ:FSt),(∀x,x∈F->aGs x y∧∃(i:Nat) (o:Oper),ops[i]? = some o∧nD P C.nt ops o=some x.bare)->
  (F.Pairwise λx x'=>∀t,x'.dst=some t->x.dst≠some t)->Real C σ->(∀x,x∈F->∀t,x.dst=some t->σ.s t=.junk)->
  vcE P K (F++y::I) σ->vcE P K (y::(F++I)) σ
 | [],I,σ,_,_,_,_,hv=>hv
 | x::F,I,σ,hp,hd,hr,j1,hv=>by
  obtain⟨H,i,o,ho,hc⟩:=hp x (by simp);have L:=H.fx;have O:=H.fy;simp only[List.cons_append,vcE,L,if_true] at hv;obtain⟨δx,U,h2⟩:=hv
  have:=aLa F I (app x.dst δx σ) (λz J=>hp z (by simp[J])) hd.tail (aFt ho hc hr U) (λz J t Y=>by
    rw[qH ((List.rel_of_pairwise_cons hd J) t Y)];exact j1 z (by simp[J]) t Y) h2
  simp only[vcE,O,Bool.false_eq_true,if_false] at this;obtain⟨σl,Z,h4⟩:=this;obtain⟨σ0,a,w,S,ρ,κ,e,ha⟩:=hr;obtain⟨σ2,h5,h6⟩:=aI9 (K:=λf=>vcE P K (F++I) f) U H e (j1 x (by simp)) Z (aAb (λ_ h=>h.1) h4);simp only[vcE,O,L,Bool.false_eq_true,if_false,if_true,List.cons_append];refine⟨σ2,h5,aCl (aAb (fun σ' h=>?_) h6)⟩;exact h
def aBz:AOp->Bool
 |.mv _=>true
 |.bin _ _ _=>true
 |.slc _ _ _ _=>true
 |_=>false
structure aGr (x y:aJ):Prop where
 fx:dX x=false
 fy:dX y=true
 gx:x.guard=none
 gy:y.guard=none
 ap:kH x y=true
 kx:∃k b A X,x.op=.append k b A X∨x.op=.appendC k b A X
 ky:((∃k a,y.op=.loadV true k a)∨∃o a,y.op=.fieldV o a)∨aBz y.op=true
theorem aIU {d:Option Nat}{op:AOp}{σ τ:FSt}{δ:Dl}{on:Option Name} (ho:(∃k a,op=.loadV true k a)∨∃o a,op=.fieldV o a) (he:Eff P d op τ δ) {new:Name}
  (hj:∀o,o∈aM op->evO τ.s o=eY on (evO σ.s o)) (hk:∀o,o∈aM op->(evO τ.s o).has new=false)
  (hh:∀m c z,m≠new->(∀n,on=some n->m≠n)->τ.h m=some (.var c z)->∃Y,σ.h m=some (.var Y z)∧c=Y.map (eY on)) :
  Eff P d op σ ⟨δ.v,[],false,[],λ_=>False⟩∧eY on δ.v=δ.v∧δ.v.has new=false∧δ.nb=[]∧δ.fz=false:=by
 rcases ho with⟨k,a,rfl⟩|⟨off,x,rfl⟩
 .cases he with
  | rd v h1 h2 h3 =>
   have F:=h2 (λu=>u=v) rfl;have ha:=hj a (by simp[aM]);have H:=hk a (by simp[aM]);simp only[rd] at F;split at F
   .rename_i m e c hx;rw[hx] at ha H;obtain⟨ea,O⟩:=aAm ha.symm;have U:m≠new:=by simpa[AV.has] using H
    split at F
    .rename_i cs z hb;obtain⟨Y,J,rfl⟩:=hh m cs z U O hb;obtain⟨⟨hl,hp⟩,rfl⟩:=F
     have em:((((Blk.var (Y.map (eY on)) z).row e).drop c).take k)=((((Blk.var Y z).row e).drop c).take k).map (eY on):=by
      rw[aBX,List.map_take,List.map_drop]
     simp only[Bool.not_true,Bool.false_or] at hp;rw[em] at hp;have e2:=aBA hp;have hc:((((Blk.var Y z).row e).drop c).take k).all rR=true:=by rw[←e2];exact hp
     simp only[em,e2];refine⟨.rd _ rfl (λK hK=>?_) λp Z hq=>?_,?_,?_,trivial,trivial⟩
     .simp only[rd,ea,J];refine⟨⟨by rw[aBX,List.length_map] at hl;exact hl,by simp only[Bool.not_true,Bool.false_or];exact hc⟩,hK⟩
     .have I:=Z a (by simp[aM]);rw[ea] at I;exact NmL.mk (NmL.take (NmL.drop ((hq m _ I.gJ J).row e) _) _)
     .rw[←aEz (g:=true) (by simpa using hc),e2]
     .simp only[AV.mk,if_true,AV.has,zX hc]
    .exact F.elim
   .exact F.elim
  |al d' hd v b h1 hf hn h2 h3=>exact(h1 (λ_ _=>True) trivial).elim
  |call d' hd f args hop' g caps hg ys L hm r hout fz hfn hflat hfr=>cases hop'
 .cases he with
  | rd v h1 h2 h3 =>
   have F:=h2 (λu=>u=v) rfl;have ha:=hj x (by simp[aM]);have H:=hk x (by simp[aM]);simp only[rd] at F;split at F
   .rename_i m e c hx;rw[hx] at ha H;obtain⟨ea,O⟩:=aAm ha.symm;have U:m≠new:=by simpa[AV.has] using H
    split at F
    .rename_i cs z hb;obtain⟨Y,J,rfl⟩:=hh m cs z U O hb;subst F;refine⟨.rd _ rfl (λK hK=>?_) λp Z hq=>?_,aAn O,by simp[AV.has,U],rfl,rfl⟩
     .simp only[rd,ea,J];exact hK
     .have I:=Z x (by simp[aM]);rw[ea] at I;exact .ptr _ _ _ _ I.gJ
    .exact F.elim
   .exact F.elim
  |al d' hd v b h1 hf hn h2 h3=>exact(h1 (λ_ _=>True) trivial).elim
  |call d' hd f args hop' g caps hg ys L hm r hout fz hfn hflat hfr=>cases hop'
theorem uP {on:Option Name}{x y:AV} (h:y=eY on x) (F:y≠.junk):x=y:=by
 cases on with
 |none=>exact h.symm
 | some n =>
  simp only[eY,scr] at h;split at h
  .exact absurd h F
  .exact h.symm
theorem aBW (on:Option Name) (k:Nat) (l:List (List AV)):eY on (.sl k l)=.sl k l:=by cases on<;>simp[eY,scr,AV.has]
theorem aAo {on:Option Name}{n:Name}{a b:Nat} (c d:Nat) (h:eY on (.loc n a b)=.loc n a b):eY on (.loc n c d)=.loc n c d:=by
 cases on with
 |none=>rfl
 | some m =>
  simp only[eY,scr,AV.has] at h⊢;by_cases F:n=m
  .simp[F] at h
  .simp[F]
theorem aIC {d:Option Nat}{op:AOp}{σ τ:FSt}{δ:Dl}{on:Option Name} (U:aBz op=true) (he:Eff P d op τ δ) {new:Name}
  (O:∀o,o∈aM op->evO τ.s o=eY on (evO σ.s o)) (hk:∀o,o∈aM op->(evO τ.s o).has new=false)
  (hh:∀m k l z,m≠new->τ.h m=some (.arr k l z)->σ.h m=some (.arr k l z)) :
  ∃v',Eff P d op σ ⟨v',[],false,[],λ_=>False⟩∧eY on v'=δ.v∧δ.v.has new=false∧δ.nb=[]∧δ.fz=false:=by
 cases he with
 | rd v H h2 h3 =>
  have F:=h2 (λu=>u=v) rfl
  have hs:rd (evO σ.s) σ.h (λu=>eY on u=v∧v.has new=false) op:=by
   cases op<;>simp only[aBz] at U<;>try(cases U;done)
   case mv a =>
    simp only[rd] at F⊢;have ha:=O a (by simp[aM]);have hn:=hk a (by simp[aM]);rw[F] at ha hn;exact⟨ha.symm,hn⟩
   case bin b x y =>
    simp only[rd] at F⊢;split at F
    .rename_i k a k' b' Z hy;have ex:=uP (O x (by simp[aM])) (by rw[Z];simp);have ey:=uP (O y (by simp[aM])) (by rw[hy];simp);rw[ex,ey,Z,hy];simp only;unfold aGm at F⊢;cases b<;>exact⟨F.1,by rw[←F.2];exact⟨aJZ _ _,rfl⟩⟩
    .exact F.elim
   case slc k x lo hi =>
    have eN:∀o:Option Operand,(∀z,o=some z->z∈aM (.slc k x lo hi))->o.map (evO τ.s)=none->o.map (evO σ.s)=none:=λo _ h=>by
     cases o with
     |none=>rfl
     |some z=>cases h
    have eI:∀(o:Option Operand) (w:Value),(∀z,o=some z->z∈aM (.slc k x lo hi))->o.map (evO τ.s)=some (.v w)->o.map (evO σ.s)=some (.v w):=λo w hm h=>by
     cases o with
     |none=>cases h
     | some z =>
      simp only[Option.map_some,Option.some.injEq] at h⊢;have:=uP (O z (hm z rfl)) (by rw[h];simp);rw[this,h]
    have J:∀z,lo=some z->z∈aM (.slc k x lo hi):=λz hz=>by subst hz;simp[aM]
    have I:∀z,hi=some z->z∈aM (.slc k x lo hi):=λz hz=>by subst hz;simp[aM]
    simp only[rd] at F⊢;split at F
    .rename_i k' l Z;have ex:=uP (O x (by simp[aM])) (by rw[Z];simp);rw[ex,Z];simp only;split at F
     .rename_i H h2;rw[eN lo J H,eN hi I h2];exact⟨F.1,by rw[←F.2];exact⟨aBW _ _ _,rfl⟩⟩
     .rename_i H h2;rw[eI lo _ J H,eN hi I h2];exact⟨F.1,by rw[←F.2];exact⟨aBW _ _ _,rfl⟩⟩
     .rename_i H h2;rw[eN lo J H,eI hi _ I h2];exact⟨F.1,by rw[←F.2];exact⟨aBW _ _ _,rfl⟩⟩
     .rename_i H h2;rw[eI lo _ J H,eI hi _ I h2];exact⟨F.1,by rw[←F.2];exact⟨aBW _ _ _,rfl⟩⟩
     .exact F.elim
    .rename_i n off len Z;have hj:=O x (by simp[aM]);have ex:=uP hj (by rw[Z];simp)
     have Y:n≠new:=by
      have:=hk x (by simp[aM]);rw[Z] at this;simpa[AV.has] using this
     have hc:eY on (.loc n off len)=.loc n off len:=by
      rw[ex,Z] at hj;exact hj.symm
     split at F
     .rename_i k' l z hb;rw[ex,Z];simp only;rw[hh n k' l z Y hb];simp only;split at F
      .rename_i H h2;rw[eN lo J H,eN hi I h2];exact⟨F.1,by rw[←F.2];exact⟨aAo _ _ hc,by simp[AV.has,Y]⟩⟩
      .rename_i H h2;rw[eI lo _ J H,eN hi I h2];exact⟨F.1,by rw[←F.2];exact⟨aAo _ _ hc,by simp[AV.has,Y]⟩⟩
      .rename_i H h2;rw[eN lo J H,eI hi _ I h2];exact⟨F.1,by rw[←F.2];exact⟨aAo _ _ hc,by simp[AV.has,Y]⟩⟩
      .rename_i H h2;rw[eI lo _ J H,eI hi _ I h2];exact⟨F.1,by rw[←F.2];exact⟨aAo _ _ hc,by simp[AV.has,Y]⟩⟩
      .exact F.elim
     .exact F.elim
    .exact F.elim
  obtain⟨u,⟨g1,g2⟩,g3,g4⟩:=aCt hs;exact⟨u,.rd u H g3 λp ho hb=>g4 p (λz ps e=>by subst e;simp[aBz] at U) ho hb,g1,g2,rfl,rfl⟩
 | al d' hd v b H hf hn h2 h3 =>
  exfalso;have:=H (λ_ _=>True) trivial;cases op<;>simp only[aBz] at U<;>first|(cases U;done)|exact this.elim
 |call d' hd f args hop' g caps hg ys L hm r hout fz hfn hflat hfr=>subst hop';simp[aBz] at U
theorem aIH {x y:aJ}{F:St}{K:FSt->Prop} (hp:aGr x y)
  (O:vc P (fun σ'=>∃δ,yE P y σ'.f δ∧K (app y.dst δ σ'.f)) [x] F):∃I,yE P y F.f I∧∃H:St,H.f=app y.dst I F.f∧vc P (fun σ'=>K σ'.f) [x] H:=by
 have hk:=hp.ap;simp only[kH,Bool.and_eq_true] at hk
 have a0:∀t,x.dst=some t->nH y t=false∧y.dst≠some t:=λt U=>by
  have:=hk.1;rw[U] at this;simpa using this
 have b0:∀t,y.dst=some t->nH x t=false:=λt U=>by
  have:=hk.2;rw[U] at this;simpa using this
 have hh:∀{z:aJ}{t:Nat},nH z t=false->∀o,o∈aM z.op->o≠.tmp t:=by
  intro z t h;simp only[nH,Bool.or_eq_false_iff] at h;exact vW (by simpa using h.1)
 simp only[vc,hp.gx] at O
 have hg:∀(d:Nat),x.dst=some d->∀(Y:AV) (B:List (Name×Blk)->List (Name×Blk)) (on:Option Name),(∀h h',aB h=aB h'->aB (B h)=aB (B h'))->(∀h m,m≠.t d 0->aB (B h) m=aB h m)->
   bX (.t d 0) (aP on F)=true->(∃δ,yE P y (⟨(d,Y)::(aP on F).s,B (aP on F).h⟩:St).f δ∧K (app y.dst δ (⟨(d,Y)::(aP on F).s,B (aP on F).h⟩:St).f))->
   ∃ I,yE P y F.f I∧∃H:St,H.f=app y.dst I F.f∧(∀z,z∈aM x.op->evO (look H.s) z=evO (look F.s) z)∧aB H.h=aB F.h∧bX (.t d 0) (aP on H)=true∧
    K (⟨(d,Y)::(aP on H).s,B (aP on H).h⟩:St).f:=by
  rintro d Z Y B on hB hs hf ⟨δ,⟨b,ry,he⟩,hK⟩;have h5:y.dst≠some d:=(a0 d Z).2;have hy:=hh (a0 d Z).1;have ha:=dW hf;have L:b=true:=by simpa[runs,hp.gy] using ry
  subst L;have he:Eff P y.dst y.op (⟨(d,Y)::(aP on F).s,B (aP on F).h⟩:St).f δ:=he
  have hu:∀o,o∈aM y.op->evO (⟨(d,Y)::(aP on F).s,B (aP on F).h⟩:St).f.s o=eY on (evO F.f.s o):=by
   intro z hz;have ho:=hy z hz;cases z with
   | tmp t =>
    have hc:t≠d:=λe=>ho (by rw[e]);simp only[evO,St.f,look];rw[if_neg hc,dU];cases on<;>rfl
   | const w =>
    simp only[evO];cases on with
    |none=>rfl
    | some n =>
     simp only[eY,scr];rw[if_neg];cases w<;>simp[AV.ofValue,AV.has];rename_i cs
     have:dJ (λm=>m=n) (List.map (λx=>AV.v x) (Array.toList cs)):=dJ.of_mem λx J=>by
      obtain⟨y,_,rfl⟩:=List.mem_map.1 J;exact Off.v _
     exact this n rfl
   |global g=>simp only[evO];exact(aA2 on).symm
   |func f=>simp only[evO];cases on<;>simp[eY,scr,AV.has,oD]
  have hw:∀o,o∈aM y.op->(evO (⟨(d,Y)::(aP on F).s,B (aP on F).h⟩:St).f.s o).has (.t d 0)=false:=by
   intro z hz;have ho:=hy z hz;cases z with
   | tmp t =>
    have hc:t≠d:=λe=>ho (by rw[e]);simp only[evO,St.f,look];rw[if_neg hc];exact ha.2.1 t
   | const w =>
    simp only[evO];cases w<;>simp[AV.ofValue,AV.has];rename_i cs
    have:dJ (λm=>m=.t d 0) (List.map (λx=>AV.v x) (Array.toList cs)):=dJ.of_mem λx J=>by
     obtain⟨y,_,rfl⟩:=List.mem_map.1 J;exact Off.v _
    exact this _ rfl
   |global g=>rfl
   |func f=>simp[evO,AV.has,oD]
  obtain ⟨v',e1,e2,e3,e4,e5⟩:∃v',Eff P y.dst y.op F.f ⟨v',[],false,[],λ_=>False⟩∧eY on v'=δ.v∧δ.v.has (.t d 0)=false∧δ.nb=[]∧δ.fz=false:=by
   rcases hp.ky with hky|hky
   rotate_left
   .exact aIC (σ:=F.f) (on:=on) (new:=.t d 0) hky he hu hw (λm c l z hm L=>by
     simp only[St.f] at L⊢;rw[hs _ _ hm,dQ] at L;cases on with
     |none=>exact L
     | some n =>
       simp only at L;split at L
       . cases L
       . obtain⟨b0,h1,h2⟩:=Option.map_eq_some_iff.1 L
         cases b0 with
         |var c0 z0=>simp[aA3] at h2
         | arr k l z0 =>
           simp only[aA3] at h2;rw[h1,h2])
   obtain ⟨q1,q2,q3,q4,q5⟩:=aIU (σ:=F.f) (on:=on) (new:=.t d 0) hky he hu hw (λm c z hm h4 L=>by
     simp only[St.f] at L⊢;rw[hs _ _ hm,dQ] at L;cases on with
     |none=>exact⟨c,L,by rw[show eY none=id from rfl];simp⟩
     | some n =>
       simp only at L;rw[if_neg (h4 n rfl)] at L;obtain⟨b0,h1,h2⟩:=Option.map_eq_some_iff.1 L;cases b0 with
       | var c0 z0 =>
         simp only[aA3,Blk.var.injEq] at h2;obtain⟨rfl,rfl⟩:=h2;exact⟨c0,h1,rfl⟩
       |arr k l z0=>simp[aA3] at h2)
   exact⟨δ.v,q1,q2,q3,q4,q5⟩
  let I:Dl:=⟨v',[],false,[],λ_=>False⟩
  let H:St:=canon ⟨put y.dst v' F.s,F.h⟩
  have hq:H.f=app y.dst I F.f:=by
   rw[lJ];exact aHq
  have s3:∀t,look H.s t=(app y.dst I F.f).s t:=λt=>congrFun (congrArg FSt.s hq) t
  have h3:aB H.h=aB F.h:=by
   have:=congrArg FSt.h hq
   have e:(app y.dst I F.f).h=aB F.h:=by
    funext n;rw[zL];simp[I,aB,St.f]
   exact this.trans e
  refine⟨I,⟨true,by simp[runs,hp.gy],e1⟩,H,hq,λz hz=>?_,h3,?_,?_⟩
  .have e:evO (look H.s) z=evO (app y.dst I F.f).s z:=by cases z<;>first|rfl|exact s3 _
   rw[e];exact aCd λt U=>hh (b0 t U) z hz
  .refine yY (aDc (aAR _) on) rfl ⟨⟨?_,ha.1.2⟩,λt=>?_,λm bl hl=>?_⟩
   .have:=ha.1.1;simp only[St.f,dQ] at this⊢;rw[h3];exact this
   .have:=ha.2.1 t;simp only[St.f,dU] at this⊢;rw[s3];by_cases U:y.dst=some t
    .rw[U,pR];cases on with
     | none =>
      show AV.has (.t d 0) v'=false
      rw[show v'=δ.v from e2];exact e3
     | some n =>
      show AV.has (.t d 0) (scr n v')=false
      rw[show scr n v'=δ.v from e2];exact e3
    .rw[qH U];exact this
   .refine ha.2.2 m bl ?_;simp only[St.f,dQ] at hl⊢;rw[h3] at hl;exact hl
  .have h0:(⟨(d,Y)::(aP on H).s,B (aP on H).h⟩:St).f=app y.dst δ (⟨(d,Y)::(aP on F).s,B (aP on F).h⟩:St).f:=by
    have g1:(⟨(d,Y)::(aP on H).s,B (aP on H).h⟩:St).f.s=(app y.dst δ (⟨(d,Y)::(aP on F).s,B (aP on F).h⟩:St).f).s:=by
     funext t
     by_cases U:y.dst=some t
     .have hc:t≠d:=λe=>h5 (by rw[U,e]);rw[U,pR];simp only[St.f,look];rw[if_neg hc,dU,s3,U,pR];cases on with
      |none=>exact e2
      |some n=>exact e2
     .rw[qH U];simp only[St.f,look,dU];rw[s3,qH U];rfl
    have g2:(⟨(d,Y)::(aP on H).s,B (aP on H).h⟩:St).f.h=(app y.dst δ (⟨(d,Y)::(aP on F).s,B (aP on F).h⟩:St).f).h:=by
     have e:(app y.dst δ (⟨(d,Y)::(aP on F).s,B (aP on F).h⟩:St).f).h=aB (B (aP on F).h):=by
      funext n;rw[zL,e4,e5];simp[aB,St.f]
     rw[e];refine hB _ _ (funext λm=>?_);simp only[dQ,h3]
    exact congr (congrArg FSt.mk g1) g2
   rw[h0];exact hK
 obtain⟨k,hr,A,X,J⟩:=hp.kx
 have go:∀(d:Nat),x.dst=some d->(x.op=.append k hr A X∨x.op=.appendC k hr A X)->bC P x.dst F (fun σ'=>∃δ,yE P y σ'.f δ∧K (app y.dst δ σ'.f)) x.op->
   ∃I,yE P y F.f I∧∃H:St,H.f=app y.dst I F.f∧bC P x.dst H (fun σ'=>K σ'.f) x.op:=by
  intro d Z J O;rcases J with J|J
  .rw[J,Z] at O;simp only[bC] at O;split at O
   .rename_i on l l' hA hX;obtain⟨⟨hf,hn⟩,hK⟩:=O;have hj:=hg d Z (.loc (.t d 0) 0 (l.length+l'.length)) (λh=>(.t d 0,.arr k (l++l') false)::h) on (λh h' e=>by funext m;simp only[aB,e]) (λh m hm=>by simp only[aB];rw[if_neg hm]) hf hK;obtain⟨I,g1,H,g2,g3,g4,g5,g6⟩:=hj;rw[J] at g3;refine⟨I,g1,H,g2,?_⟩;rw[J,Z];simp only[bC];rw[g3 A (by simp[aM]),g3 X (by simp[aM]),g4,hA,hX];exact⟨⟨g5,hn⟩,g6⟩
   .exact O.elim
  .rw[J,Z] at O;simp only[bC] at O;split at O
   .rename_i on l l' hA hX;obtain⟨⟨hf,hn⟩,hK⟩:=O;have hj:=hg d Z (.sl k (l++l')) (λh=>h) on (λh h' e=>e) (λh m hm=>rfl) hf hK;obtain⟨I,g1,H,g2,g3,g4,g5,g6⟩:=hj;rw[J] at g3;refine⟨I,g1,H,g2,?_⟩;rw[J,Z];simp only[bC];rw[g3 A (by simp[aM]),g3 X (by simp[aM]),g4,hA,hX];exact⟨⟨g5,hn⟩,g6⟩
   .exact O.elim
 cases Z:x.dst with
 |none=>rcases J with J|J<;>(rw[J,Z] at O;exact O.elim)
 | some d =>
  obtain⟨I,g1,H,g2,g3⟩:=go d Z J O;refine⟨I,g1,H,g2,?_⟩;simp only[vc,hp.gx];exact g3
theorem aLd {x:aJ}{J:St}{K:St->Prop} (L:x.guard=none) (O:∃k b A X,x.op=.append k b A X∨x.op=.appendC k b A X) (F:vc P K [x] J) :
  ∃r,K r∧∀I:St->Prop,I r->vc P I [x] J:=by
 obtain⟨k,b,A,X,H⟩:=O;simp only[vc,L] at F⊢;cases hd:x.dst with
 |none=>rcases H with H|H<;>(rw[H,hd] at F;exact F.elim)
 | some d =>
  rcases H with H|H<;>rw[H,hd] at F
  all_goals
   simp only[bC,H] at F⊢;split at F
   .exact⟨_,F.2,λI h=>⟨F.1,h⟩⟩
   .exact F.elim
theorem aHn {ops:Array Oper}{K:FSt->Prop}{y:aJ} (O:dX y=true):∀(I L:List aJ) (σ:FSt),(∀x,x∈I->(Pair x y∨aGr x y)∧∃(i:Nat) (o:Oper),ops[i]? = some o∧nD P C.nt ops o=some x.bare)->
  (I.Pairwise λx x'=>∀t,x'.dst=some t->x.dst≠some t)->Real C σ->(∀x,x∈I->∀t,x.dst=some t->σ.s t=.junk)->(I≠[]->∀t,y.dst=some t->σ.s t=.junk)->
  vcE P K (I++y::L) σ->vcE P K (y::(I++L)) σ
 | [],L,σ,_,_,_,_,_,hv=>hv
 | x::I,L,σ,hp,hd,hr,j1,j2,hv=>by
  obtain⟨F,i,o,ho,hc⟩:=hp x (by simp);have ha:kH x y=true:=by rcases F with h|h<;>exact h.ap
  have ax:∀t,y.dst=some t->x.dst≠some t:=by
   intro t H h;have:=ha;simp only[kH,h,Bool.and_eq_true,Bool.not_eq_true',beq_eq_false_iff_ne] at this;exact this.1.2 H
  rcases F with F|F
  .have Z:=F.fx;simp only[List.cons_append,vcE,Z,if_true] at hv;obtain⟨δx,h1,h2⟩:=hv
   have:=aHn O I L (app x.dst δx σ) (λz J=>hp z (by simp[J])) hd.tail (aFt ho hc hr h1) (λz J t H=>by
     rw[qH ((List.rel_of_pairwise_cons hd J) t H)];exact j1 z (by simp[J]) t H) (λ_ t H=>by
     rw[qH (ax t H)];exact j2 (by simp) t H) h2
   simp only[vcE,O,if_true] at this;obtain⟨δy,h3,h4⟩:=this;obtain⟨σl,a,w,S,ρ,κ,e,U⟩:=hr;obtain⟨h5,h6,h7⟩:=aJd h1 h3 (by rw[←e];exact U.wf) Z O F.ap (j1 x (by simp)) (j2 (by simp));simp only[vcE,O,Z,if_true,List.cons_append];exact⟨δy,h5,δx,h6,by rw[h7];exact h4⟩
  .have Z:=F.fx;simp only[List.cons_append,vcE,Z,Bool.false_eq_true,if_false] at hv;obtain⟨σl,e,h2⟩:=hv;obtain⟨r,⟨h3,h4⟩,h5⟩:=aLd F.gx F.kx h2;obtain⟨σ0,a,w,S,ρ,κ,e0,U⟩:=hr
   have Y:Real C r.f:=by
    obtain⟨a',w',σ',S',ρ',κ',q1,q2⟩:=aHw (aHT (Q:=λ_ _ _=>False) ho hc (h5 (fun σ'=>σ'=r) rfl) (by rw[e,←e0];exact U));exact⟨σ',a',w',S',ρ',κ',by rw[q1],q2⟩
   have sl:∀t,look σl.s t=σ.s t:=λt=>congrFun (congrArg FSt.s e) t
   have:=aHn O I L r.f (λz J=>hp z (by simp[J])) hd.tail Y (λz J t H=>by
     exact h4 t ((List.rel_of_pairwise_cons hd J) t H) ((sl t).trans (j1 z (by simp[J]) t H))) (λ_ t H=>by
     exact h4 t (ax t H) ((sl t).trans (j2 (by simp) t H))) h3
   simp only[vcE,O,if_true] at this;obtain⟨δ',g1,σ3,g2,g3⟩:=aIH (K:=λf=>vcE P K (I++L) f) F (h5 (fun σ'=>∃δ,yE P y σ'.f δ∧vcE P K (I++L) (app y.dst δ σ'.f)) this);rw[e] at g1 g2;simp only[vcE,O,Z,Bool.false_eq_true,if_false,if_true,List.cons_append];exact⟨δ',g1,σ3,g2,aCl g3⟩
def aLg (o:Oper) (k:Nat):Bool:=o.after.any λe=>Region.binds .any e&&e.on==k
def aAT (ops:Array Oper):Nat->Nat->Nat->Bool
 |0,_,_=>false
 | n+1,k,i=>match ops[i]? with
  |some o=>o.after.any λe=>Region.binds .any e&&(e.on==k||aAT ops n k e.on)
  |none=>false
def wR (aops:List aJ) (k:Nat):Bool:=match(aops[k]?).bind (·.dst) with
 |some d=>(List.range aops.length).all λj=>j==k||!(((aops[j]?).bind (·.dst))==some d)
 |none=>true
def aCX (ops:Array Oper) (k i:Nat):Bool:=match ops[i]? with|some o=>!aLg o k|none=>false
def aML (x y:aJ):Bool:=dX x&&!dX y&&y.guard.isNone&&kH x y&&match y.op with
 |.store ..=>aAx x.op
 |.append ..=>match x.op with|.mv _=>true|_=>false
 |_=>false
def aKH (x y:aJ):Bool:=dX x&&!dX y&&y.guard.isNone&&kH x y&&x.dst.isSome&&(match y.op with
  |.append ..=>true
  |_=>false)&&match x.op with
 |.load ..=>true
 |.fieldAddr ..=>true
 |_=>false
def aJQ (x y:aJ):Bool:=!dX x&&dX y&&x.guard.isNone&&y.guard.isNone&&kH x y&&y.dst.isSome&&(match x.op with
  |.append ..=>true
  |_=>false)&&match y.op with
 |.load g _ _=>g
 |.fieldAddr ..=>true
 |_=>false
def aME (x y:aJ):Bool:=!dX x&&dX y&&x.guard.isNone&&y.guard.isNone&&kH x y&&y.dst.isSome&&(match x.op with
  |.append ..=>true
  |_=>false)&&aBz y.op
def aFG (x y:aJ):List Nat:=(if aKH x y then(match x.dst with
  |some d=>[d+1000000]
  |none=>[]) else[])++if aJQ x y then(match y.dst with
  |some d=>[d+1000000]
  |none=>[]) else[]
def aAy (ops:Array Oper) (aops:List aJ) (k i:Nat):Bool:=match aops[k]?,aops[i]? with
 |some x,some y=>(aME x y||(aKH x y||aJQ x y))&&wR aops k&&wR aops i&&!aAT ops ops.size k i
 |_,_=>false
def aCz (aops:List aJ) (k i:Nat):Bool:=match aops[k]?,aops[i]? with
 |some x,some y=>((dX x&&dX y&&kH x y)||aML x y)&&wR aops k&&wR aops i
 |_,_=>false
def aMR (ops:Array Oper):Bool:=(List.range ops.size).all λi=>match ops[i]? with
 |some o=>o.after.all λe=>!Region.binds .any e||decide (e.on<i)
 |none=>true
def qL (n:Nat) (ops:Array Oper):List (Nat×Nat):=(List.range n).flatMap λi=>(List.range i).filterMap λk=>if aCX ops k i then some (k,i) else none
def aMJ (ops:Array Oper) (aops:List aJ):Bool:=aMR ops&&(qL ops.size ops).all λp=>(aCz aops p.1 p.2||aAy ops aops p.1 p.2)||aAT ops ops.size p.1 p.2
def aF3 (ops:Array Oper) (aops:List aJ):List Nat:=(((qL ops.size ops).filter λp=>aCz aops p.1 p.2||aAy ops aops p.1 p.2).flatMap λp=>((aops[p.1]?).bind (·.dst)).toList++((aops[p.2]?).bind (·.dst)).toList++(if aAy ops aops p.1 p.2 then(match aops[p.1]?,aops[p.2]? with
  |some x,some y=>aFG x y
  |_,_=>[]) else[])).eraseDups
def setB (ops:Array Oper) (i:Nat):Bool:=(qL ops.size ops).all λp=>!(p.1==i||p.2==i)||aAT ops ops.size p.1 p.2
def writes (P:Program):AOp->Bool
 | .call (.func g) _ _=>match P.funcs[g]? with
  |some fn=>fn.name == "loop.example/g01012/spec.l15Do"
  |none=>false
 |_=>false
def aII (P:Program) (ops:Array Oper) (aops:List aJ):List Nat:=(List.range aops.length).filterMap λi=>match aops[i]? with
 | some o=>match o.dst with
  |some d=>if writes P o.op&&setB ops i then some (d+2000000) else none
  |none=>none
 |none=>none
def bG (P:Program) (nt:Nat) (ops:Array Oper):Option (List Nat):=match aBR P nt ops ops.toList with
 |some l=>if Nat.ble nt 1000000&&aMJ ops l then some (aF3 ops l++aII P ops l) else none
 |none=>none
end
section
variable [Envs]
variable {P:Program}{C:Ctx}{a:Act}{w:World}{S:Nat->Prop}{ρ:Name->Option Nat}{κ:Name->Nat}
theorem aDj (F:List aJ) (H I:List Nat):atL F (H++I)=atL F H++atL F I:=by simp[atL]
structure Plan (P:Program) (C:Ctx) (ops:Array Oper) (aops:List aJ) (F:Nat->Prop):Prop where
 corr:∀(j:Nat) (ao:aJ),aops[j]? = some ao->∃o:Oper,ops[j]? = some o∧nD P C.nt ops o=some ao.bare
 len:ops.size=aops.length
 back:∀(i:Nat) (o:Oper),ops[i]? = some o->∀e,e∈o.after->Region.binds .any e=true->e.on<i
 pair:∀k i,k<i->i<ops.size->aCX ops k i=true->aAT ops ops.size k i=false->F k∧F i∧∀(x y:aJ),aops[k]? = some x->aops[i]? = some y->Pair x y∨aGs x y∨aGr x y
 uniq:∀k,F k->∀(x:aJ) (d:Nat),aops[k]? = some x->x.dst=some d->∀(j:Nat) (y:aJ),j≠k->aops[j]? = some y->y.dst≠some d
theorem aDk {ops:Array Oper}{F:Array Bool} (H:∀(j:Nat) (o:Oper),ops[j]? = some o->F.getD j false=true->∀e,e∈o.after->Region.binds .any e=true->F.getD e.on false=true) :
  ∀(n k i:Nat) (o:Oper),ops[i]? = some o->(∀e,e∈o.after->Region.binds .any e=true->F.getD e.on false=true)->aAT ops n k i=true->F.getD k false=true
 |0,_,_,_,_,_,h=>by simp[aAT] at h
 | n+1,k,i,o,ho,hl,h=>by
  simp only[aAT,ho] at h;rw[←Array.any_toList,List.any_eq_true] at h;obtain⟨e,J,h⟩:=h;simp only[Bool.and_eq_true,Bool.or_eq_true,beq_iff_eq] at h;have I:=hl e (by simpa using J) h.1;rcases h.2 with h2|h2
  .rw[←h2];exact I
  .cases ho':ops[e.on]? with
   | none =>
    cases n with
    |zero=>simp[aAT] at h2
    |succ n=>simp[aAT,ho'] at h2
   |some o'=>exact aDk H n k e.on o' ho' (H e.on o' ho' I) h2
theorem aNJ {ops:Array Oper}{I:List aJ}{F:Nat->Prop}{K:St->Prop}{Q:Exit->Act->World->Prop} (hp:Plan P C ops I F) (hQ:∀a w,bV C K a w->Q .normal a w) :
  ∀ (n:Nat) (r:List Nat) (H:Array Bool) (σl:St) (a:Act) (w:World) (S:Nat->Prop) (ρ:Name->Option Nat) (κ:Name->Nat),r.length=n->r.Pairwise (· < ·)->H.size=ops.size->
   (∀i,i∈r↔i<ops.size∧H.getD i true=false)->(∀i,i∈r->F i->∀(x:aJ) (d:Nat),I[i]? = some x->x.dst=some d->look σl.s d=.junk)->
   (∀(j:Nat) (o:Oper),ops[j]? = some o->H.getD j false=true->∀e,e∈o.after->Region.binds .any e=true->H.getD e.on false=true)->
   vcE P (λf=>∃σ':St,σ'.f=f∧K σ') (atL I r) σl.f->OK C σl.f a w S ρ κ->wpAny P .any ops Q n H a w:=by
 intro n
 induction n with
 | zero =>
  intro r H σl a w S ρ κ hn _ qj hr _ _ hv hq;obtain rfl:=List.length_eq_zero_iff.1 hn;refine⟨?_,?_⟩
  .cases h:Region.ready .any ops H with
   |nil=>rfl
   | cons i l =>
    have:i∈Region.ready .any ops H:=by rw[h];simp
    obtain⟨h1,o,h2,_⟩:=mem_ready.1 this;have:i∈([]:List Nat):=(hr i).2 ⟨(Array.getElem?_eq_some_iff.1 h2).1,h1⟩;cases this
  .obtain⟨σ',h1,h2⟩:=hv;exact hQ a w ⟨σ',S,ρ,κ,h2,by rw[h1];exact hq⟩
 | succ n ih =>
  intro r H σl a w S ρ κ hn O qj hr hj qc hv hq
  have done:∀i,i<ops.size->i∉r->H.getD i false=true:=by
   intro i hi h9;cases h:H.getD i true with
   |false=>exact absurd ((hr i).2 ⟨hi,h⟩) h9
   | true =>
    have:i<H.size:=by omega
    simp[this] at h⊢;exact h
  refine⟨λqi=>?_,λi hi=>?_⟩
  .exfalso;cases r with
   |nil=>simp at hn
   | cons r0 r =>
    obtain⟨h1,h2⟩:=(hr r0).1 (by simp)
    have:r0∈Region.ready .any ops H:=mem_ready.2 ⟨h2,ops[r0],by simp[h1],λe he hb=>by
      have hc:=hp.back r0 ops[r0] (by simp[h1]) e he hb;refine done e.on (by omega) λhm=>?_;rcases List.mem_cons.1 hm with h|h
      . omega
      . have:=List.rel_of_pairwise_cons O h;omega⟩
    rw[qi] at this;cases this
  .obtain⟨h1,oi,h2,h3⟩:=mem_ready.1 hi;have ha:i<ops.size:=(Array.getElem?_eq_some_iff.1 h2).1;have h9:i∈r:=(hr i).2 ⟨ha,h1⟩;obtain⟨U,r2,rfl⟩:=List.append_of_mem h9;have ql:i<I.length:=by rw[←hp.len];exact ha
   obtain⟨y,hy⟩:∃y,I[i]? = some y:=⟨I[i],by simp[ql]⟩;obtain⟨qr,g1,g2⟩:=hp.corr i y hy;rw[h2] at g1;obtain rfl:=Option.some.inj g1;have hc:∀k,k∈U->k<i:=λk L=>(List.pairwise_append.1 O).2.2 k L i (by simp)
   have qe:∀k,k∈U->aCX ops k i=true:=by
    intro k L;simp only[aCX,h2,aLg,Bool.not_eq_true',List.any_eq_false,←Array.any_toList];intro e he;simp only[Bool.and_eq_true,beq_iff_eq,not_and];intro hb qm;have h4:=h3 e (by simpa using he) hb;have h5:=((hr k).1 (by simp[L])).2;rw[qm] at h4;have:k<H.size:=by have:=hc k L;omega
    simp[this] at h4 h5;rw[h4] at h5;cases h5
   have h7:∀k,k∈U->aAT ops ops.size k i=false:=by
    intro k L;cases h:aAT ops ops.size k i with
    |false=>rfl
    | true =>
     have h4:=aDk qc ops.size k i oi h2 h3 h;have h5:=((hr k).1 (by simp[L])).2;have:k<H.size:=by have:=hc k L;omega
     simp[this] at h4 h5;rw[h4] at h5;cases h5
   have hh:∀x,x∈atL I U->∃k,k∈U∧I[k]? = some x:=by
    intro x Z;obtain⟨k,L,Y⟩:=List.mem_filterMap.1 Z;exact⟨k,L,Y⟩
   have e1:atL I (U++i::r2)=atL I U++y::atL I r2:=by
    rw[aDj];simp[atL,hy]
   rw[e1] at hv;have h6:=(List.pairwise_append.1 O).1
   have hf:(atL I U).Pairwise λx x'=>∀t,x'.dst=some t->x.dst≠some t:=by
    have:U.Pairwise λk k'=>∀x,I[k]? = some x->∀x',I[k']? = some x'->∀t,x'.dst=some t->x.dst≠some t:=by
     refine h6.imp_of_mem λ{k k'} L hk' hkk x Z x' qb t ht=>?_;have hF:=(hp.pair k' i (hc k' hk') ha (qe k' hk') (h7 k' hk')).1;exact hp.uniq k' hF x' t qb ht k x (by omega) Z
    exact List.pairwise_filterMap.2 (this.imp λh x Z x' qb=>h x Z x' qb)
   have hu:Real C σl.f:=⟨σl,a,w,S,ρ,κ,rfl,hq⟩;have J:∀k,k∈U->F k∧F i∧∀(x y:aJ),I[k]? = some x->I[i]? = some y->Pair x y∨aGs x y∨aGr x y:=λk L=>hp.pair k i (hc k L) ha (qe k L) (h7 k L)
   have qg:∀x,x∈atL I U->∀t,x.dst=some t->σl.f.s t=.junk:=by
    intro x Z t ht;obtain⟨k,L,Y⟩:=hh x Z;exact hj k (by simp[L]) (J k L).1 x t Y ht
   have hd:vcE P (λf=>∃σ':St,σ'.f=f∧K σ') (y::(atL I U++atL I r2)) σl.f:=by
    by_cases hw:dX y=true
    .refine aHn (P:=P) (C:=C) (ops:=ops) (y:=y) hw (atL I U) (atL I r2) σl.f (λx Z=>?_) hf hu qg (λqn t ht=>?_) hv
     .obtain⟨k,L,Y⟩:=hh x Z;obtain⟨o,q1,q2⟩:=hp.corr k x Y;refine⟨?_,k,o,q1,q2⟩;rcases(J k L).2.2 x y Y hy with h|h|h
      .exact .inl h
      .have:=h.fy;rw[hw] at this;cases this
      .exact .inr h
     .cases U with
      |nil=>exact absurd rfl qn
      |cons k _=>exact hj i (by simp) (J k (by simp)).2.1 y t hy ht
    .refine aLa (P:=P) (C:=C) (ops:=ops) (y:=y) (atL I U) (atL I r2) σl.f (λx Z=>?_) hf hu qg hv;obtain⟨k,L,Y⟩:=hh x Z;obtain⟨o,q1,q2⟩:=hp.corr k x Y;refine⟨?_,k,o,q1,q2⟩;rcases(J k L).2.2 x y Y hy with h|h|h
     .exact absurd h.fy hw
     .exact h
     .exact absurd h.fy hw
   have e2:atL I U++atL I r2=atL I (U++r2):=(aDj _ _ _).symm;rw[e2] at hd
   have hz:i∉U∧i∉r2:=by
    have hs:=List.pairwise_append.1 O;exact⟨λh=>Nat.lt_irrefl _ (hc i h),λh=>Nat.lt_irrefl _ (List.rel_of_pairwise_cons hs.2.1 h)⟩
   have h0:(U++r2).Pairwise (· < ·):=by
    have hs:=List.pairwise_append.1 O;exact List.pairwise_append.2 ⟨hs.1,hs.2.1.tail,λx Z y hy=>hs.2.2 x Z y (by simp[hy])⟩
   have qo:∀k,k∈U++r2↔k<ops.size∧(H.setIfInBounds i true).getD k true=false:=by
    intro k;by_cases hg:k=i
    .subst hg;have:k<H.size:=by omega
     simp[hz.1,hz.2,this]
    .rw[getD_set_ne true (Ne.symm hg),←hr k];simp[hg]
   have qd:∀(j:Nat) (o:Oper),ops[j]? = some o->(H.setIfInBounds i true).getD j false=true->∀e,e∈o.after->Region.binds .any e=true->(H.setIfInBounds i true).getD e.on false=true:=by
    intro j o ho hl e he hb;refine getD_set_true ?_;by_cases qf:i=j
    .subst qf;rw[h2] at ho;obtain rfl:=Option.some.inj ho;exact h3 e he hb
    .rw[getD_set_ne false qf] at hl;exact qc j o ho hl e he hb
   have h8:∀(σ':St) a' w',aCQ y.dst σl σ'->vcE P (λf=>∃σ':St,σ'.f=f∧K σ') (atL I (U++r2)) σ'.f->(∃S ρ κ,OK C σ'.f a' w' S ρ κ)->wpAny P .any ops Q n (H.setIfInBounds i true) a' w':=by
    rintro σ' a' w' L qp ⟨S',ρ',κ',hok'⟩;refine ih (U++r2) _ σ' a' w' S' ρ' κ' (by simp at hn⊢;omega) h0 (by simp[qj]) qo (λk qh hF x d Z qk=>?_) qd qp hok'
    have hg:k≠i:=by
     rintro rfl;rcases List.mem_append.1 qh with h|h
     .exact hz.1 h
     .exact hz.2 h
    refine L d (hp.uniq k hF x d Z qk i y (Ne.symm hg) hy) (hj k ?_ hF x d Z qk);rcases List.mem_append.1 qh with h|h
    .simp[h]
    .simp[h]
   simp only[vcE] at hd;split at hd
   .obtain⟨δ,q1,q2⟩:=hd;have qq:=aJs (P:=P) (o:=y) (σ:=canon σl) (δ:=δ) (aAR σl) (by rw[lJ];exact q1);refine wpOp_mono (λa' w' ⟨σ',S',ρ',κ',m1,m2⟩=>?_) (aHT h2 g2 qq (by rw[lJ];exact hq));rw[lJ] at m1;refine h8 σ' a' w' (λt ht qa=>?_) (by rw[m1];exact q2) ⟨S',ρ',κ',m2⟩
    have:σ'.f.s t=(app y.dst δ σl.f).s t:=by rw[m1]
    rw[qH ht] at this;exact this.trans qa
   .obtain⟨σ2,q1,q2⟩:=hd;refine wpOp_mono (λa' w' ⟨σ',S',ρ',κ',m1,m2⟩=>?_) (aHT h2 g2 q2 (by rw[q1];exact hq));refine h8 σ' a' w' (λt ht qa=>m1.2 t ht ?_) m1.1 ⟨S',ρ',κ',m2⟩
    have:σ2.f.s t=σl.f.s t:=by rw[q1]
    exact this.trans qa
theorem aZ (ao:aJ):aM ao.bare.op=aM ao.op∧ao.bare.dst=ao.dst∧ao.bare.guard=ao.guard∧wH ao.bare.op=wH ao.op:=by
 obtain⟨d,op,g⟩:=ao;cases op<;>exact⟨rfl,rfl,rfl,rfl⟩
theorem aGM (y:aJ) (t:Nat):nH y.bare t=nH y t:=by
 grind [aZ,nH]
theorem pU (x y:aJ):kH x.bare y.bare=kH x y:=by
 grind [aZ,nH,aGM,kH]
theorem aHb {x:aJ} (h:dX x.bare=true) (H:∀f args bor,x.op=.call f args bor->bor=[]) (I:∀k n z F,x.op≠.bsliceC k n z F):dX x=true:=by
 obtain⟨d,op,g⟩:=x;cases op
 case bsliceC k n z F=>exact absurd rfl (I k n z F)
 case call f args bor =>
  have:=H f args bor rfl;subst this;exact h
 all_goals exact h
theorem aIV {s:List (Nat×AV)}{d:Nat} (h:(s.all λp=>!(p.1==d))=true):look s d=.junk:=by
 induction s with
 |nil=>rfl
 | cons p r ih =>
  obtain⟨i,x⟩:=p;simp only[List.all_cons,Bool.and_eq_true,Bool.not_eq_true',beq_eq_false_iff_ne] at h;simp only[look];rw[if_neg (λe=>h.1 e.symm)];exact ih h.2
theorem x9 {α β:Type}{f g:α->Option β}:∀{l:List α},(∀x,x∈l->f x=g x)->l.filterMap f=l.filterMap g
 | [],_=>rfl
 |x::r,h=>by simp only[List.filterMap_cons,h x (by simp),x9 (l:=r) λy F=>h y (by simp[F])]
instance:Inhabited aJ:=⟨⟨none,.lenC 0,none⟩⟩
theorem bZ (hm:P.follows .mixedOrders=true):iF P (bG P):=by
 intro C id ops aops fl K Q σ a w S ρ κ hd hc hen hQ hv hok;unfold bG at hd;rw[hc] at hd;simp only at hd;split at hd
 .rename_i hop;obtain rfl:=Option.some.inj hd;simp only[aMJ,Bool.and_eq_true,List.all_eq_true] at hop;obtain⟨hnt,hback,hpairs⟩:=hop;have hnt:=Nat.le_of_ble_eq_true hnt
  have hset0:∀(k:Nat) (x:aJ) (d:Nat),aops[k]? = some x->x.dst=some d->d+2000000∈aF3 ops (aops.map aJ.bare)++aII P ops (aops.map aJ.bare)->∃k' x',aops[k']? = some x'∧x'.dst=some d∧setB ops k'=true:=by
   intro k x d hx hd hm
   have hdn:∀(k:Nat) (d:Nat),((aops.map aJ.bare)[k]?).bind (·.dst)=some d->d<1000000:=by
    intro k d hd
    have hkl:k<aops.length:=by
     rcases Nat.lt_or_ge k aops.length with h|h
     .exact h
     .simp[h] at hd
    obtain⟨_,g2⟩:=mD hc;obtain⟨o,q1,q2⟩:=g2 k aops[k] (by simp[hkl]);obtain⟨_,h2,h3,_⟩:=iO q2
    have:aops[k].dst=some d:=by
     have e:((aops.map aJ.bare)[k]?).bind (·.dst)=aops[k].dst:=by simp[hkl,(aZ aops[k]).2.1]
     rw[←e];exact hd
    have hlt:d<C.nt:=h3 d (h2.trans this);omega
   rcases List.mem_append.1 hm with hm|hm
   .exfalso;simp only[aF3,List.mem_eraseDups,List.mem_flatMap,List.mem_filter] at hm;obtain⟨p,_,hp⟩:=hm;rcases List.mem_append.1 hp with hp|hp
    .rcases List.mem_append.1 hp with hp|hp
     .have:=hdn _ _ (Option.mem_toList.1 hp);omega
     .have:=hdn _ _ (Option.mem_toList.1 hp);omega
    .split at hp
     .split at hp
      .rename_i x' y' hx' hy';unfold aFG at hp;rcases List.mem_append.1 hp with hp|hp
       .split at hp
        .split at hp
         .rename_i d' hd';have:=hdn p.1 d' (by rw[hx'];exact hd');simp at hp;omega
         .cases hp
        .cases hp
       .split at hp
        .split at hp
         .rename_i d' hd';have:=hdn p.2 d' (by rw[hy'];exact hd');simp at hp;omega
         .cases hp
        .cases hp
      .cases hp
     .cases hp
   .simp only[aII,List.mem_filterMap,List.mem_range,List.length_map] at hm;obtain⟨i,hi,hm⟩:=hm;split at hm
    .rename_i o ho;split at hm
     .rename_i d' hd';split at hm
      .rename_i hw;simp only[Option.some.injEq] at hm;have hdd:d'=d:=by omega
       simp only[Bool.and_eq_true] at hw
       obtain ⟨x',hx',rfl⟩:∃x',aops[i]? = some x'∧x'.bare=o:=by
        rw[List.getElem?_map] at ho;exact Option.map_eq_some_iff.1 ho
       exact⟨i,x',hx',by rw[←(aZ x').2.1,hd',hdd],hw.2⟩
      .cases hm
     .cases hm
    .cases hm
  obtain⟨g1,g2⟩:=mD hc;have hlen:ops.size=aops.length:=by simpa using g1
  have hmem:∀k i,k<i->i<ops.size->aCX ops k i=true->(k,i)∈qL ops.size ops:=by
   intro k i hk hi hf;simp only[qL,List.mem_flatMap,List.mem_range,List.mem_filterMap];exact⟨i,hi,k,hk,by rw[if_pos hf]⟩
  let F:Nat->Prop:=λk=>∃p,p∈qL ops.size ops∧(aCz (aops.map aJ.bare) p.1 p.2||aAy ops (aops.map aJ.bare) p.1 p.2)=true∧aAT ops ops.size p.1 p.2=false∧(p.1=k∨p.2=k)
  have bareAt:∀(i:Nat) (x:aJ),aops[i]? = some x->(aops.map aJ.bare)[i]? = some x.bare:=by
   intro i x hx;simp[hx]
  have hfl:∀(k:Nat) (x:aJ) (d:Nat),F k->aops[k]? = some x->x.dst=some d->d∈aF3 ops (aops.map aJ.bare)++aII P ops (aops.map aJ.bare):=by
   rintro k x d ⟨p,hp,hpp,hpa,hpk⟩ hx hd;refine List.mem_append_left _ ?_;simp only[aF3,List.mem_eraseDups,List.mem_flatMap,List.mem_filter];refine⟨p,⟨hp,hpp⟩,?_⟩;have:((aops.map aJ.bare)[k]?).bind (·.dst)=some d:=by rw[bareAt k x hx];simp[(aZ x).2.1,hd]
   rcases hpk with h|h
   .rw[h,this];simp
   .rw[h,this];simp
  have hmk:∀(k i:Nat) (x y:aJ) (d:Nat),(k,i)∈qL ops.size ops->aAy ops (aops.map aJ.bare) k i=true->aops[k]? = some x->aops[i]? = some y->d∈aFG x.bare y.bare->d∈aF3 ops (aops.map aJ.bare)++aII P ops (aops.map aJ.bare):=by
   intro k i x y d hp hpp hx hy hd;refine List.mem_append_left _ ?_;simp only[aF3,List.mem_eraseDups,List.mem_flatMap,List.mem_filter];refine⟨(k,i),⟨hp,by rw[hpp,Bool.or_true]⟩,?_⟩;simp only[bareAt k x hx,bareAt i y hy,hpp,if_true];simp[hd]
  simp only[aCZ,Bool.and_eq_true,List.all_eq_true] at hen
  have hjunk:∀(k:Nat) (x:aJ) (d:Nat),F k->aops[k]? = some x->x.dst=some d->look σ.s d=.junk:=λk x d hF hx hd =>
   aIV (by simpa using hen.1 d (hfl k x d hF hx hd))
  have hbor:∀(k:Nat) (x:aJ),F k->aops[k]? = some x->dX x.bare=true->dX x=true:=by
   intro k' x hF hx hfr
   have hds:wH x.bare.op=false->x.dst.isSome=true:=by
    intro hi;simp only[dX,Bool.and_eq_true,Bool.or_eq_true,hi,(aZ x).2.1,Bool.false_eq_true,false_or] at hfr;exact hfr.2
   have hsl:∀k n z ps,x.op≠.bsliceC k n z ps:=by
    intro k n z ps e;obtain⟨d,hd⟩:=Option.isSome_iff_exists.1 (hds (by rw[(aZ x).2.2.2,e];rfl));have h1:=hen.2 x (List.mem_of_getElem? hx);rw[e,hd] at h1;have h2:=hfl k' x d hF hx hd;simp[h2] at h1
   refine aHb hfr (λf args bor e=>?_) hsl;obtain⟨d,hd⟩:=Option.isSome_iff_exists.1 (hds (by rw[(aZ x).2.2.2,e];rfl));have h1:=hen.2 x (List.mem_of_getElem? hx);rw[e,hd] at h1;have h2:=hfl k' x d hF hx hd;simp only[Bool.or_eq_true,List.isEmpty_iff,Bool.not_eq_true',List.contains_eq_mem,decide_eq_false_iff_not,decide_eq_true_eq] at h1;rcases h1 with(h1|h1)|h1
   .exact h1
   .exact absurd h2 h1
   .exfalso;obtain⟨k2,x2,g1,g2,g3⟩:=hset0 _ x d hx hd h1;obtain⟨⟨ka,ia⟩,hp,hpp,hpa,hpk⟩:=hF
    have hu:wR (aops.map aJ.bare) ka=true∧wR (aops.map aJ.bare) ia=true:=by
     rw[Bool.or_eq_true] at hpp;rcases hpp with hpp|hpp
     .simp only[aCz] at hpp;split at hpp
      .simp only[Bool.and_eq_true] at hpp;exact⟨hpp.1.2,hpp.2⟩
      .cases hpp
     .simp only[aAy] at hpp;split at hpp
      .simp only[Bool.and_eq_true] at hpp;exact⟨hpp.1.1.2,hpp.1.2⟩
      .cases hpp
    have huk:wR (aops.map aJ.bare) k'=true:=by
     rcases hpk with h|h
     .simp only at h;rw[←h];exact hu.1
     .simp only at h;rw[←h];exact hu.2
    unfold wR at huk;have e1:((aops.map aJ.bare)[k']?).bind (·.dst)=some d:=by rw[bareAt k' x hx];simp[(aZ x).2.1,hd]
    have e2:((aops.map aJ.bare)[k2]?).bind (·.dst)=some d:=by rw[bareAt k2 x2 g1];simp[(aZ x2).2.1,g2]
    rw[e1] at huk;simp only[List.all_eq_true,List.mem_range,List.length_map] at huk;have hq:=huk k2 (List.getElem?_eq_some_iff.1 g1).1;rw[e2] at hq;have hkk:k2=k':=by simpa using hq
    subst hkk;unfold setB at g3;have:=List.all_eq_true.1 g3 _ hp;simp only[hpa,Bool.or_false,Bool.not_eq_true',Bool.or_eq_false_iff,beq_eq_false_iff_ne] at this;rcases hpk with h|h
    .exact this.1 h
    .exact this.2 h
  have hno:∀(k:Nat) (x:aJ) (d:Nat),aops[k]? = some x->x.dst=some d->d+1000000∈aF3 ops (aops.map aJ.bare)++aII P ops (aops.map aJ.bare)->(∀g n a,x.op≠.load g n a)∧∀o a,x.op≠.fieldAddr o a:=by
   intro k x d hx hd hm;have h1:=hen.2 x (List.mem_of_getElem? hx);refine⟨λg n a e=>?_,λo a e=>?_⟩
   .rw[e,hd] at h1;simp[hm] at h1
   .rw[e,hd] at h1;simp[hm] at h1
  have hpair:∀k i,(k,i)∈qL ops.size ops->(aCz (aops.map aJ.bare) k i||aAy ops (aops.map aJ.bare) k i)=true->aAT ops ops.size k i=false->∀(x y:aJ),aops[k]? = some x->aops[i]? = some y->(Pair x y∨aGs x y∨aGr x y)∧wR (aops.map aJ.bare) k=true∧wR (aops.map aJ.bare) i=true:=by
   intro k i hki h hpa x y hx hy;have hpp:=h;rw[Bool.or_eq_true] at h;rcases h with h|h
   .simp only[aCz,bareAt k x hx,bareAt i y hy,Bool.and_eq_true,Bool.or_eq_true,pU] at h;refine⟨?_,h.1.2,h.2⟩;rcases h.1.1 with h1|h1
    .exact .inl ⟨hbor k x ⟨_,hki,hpp,hpa,.inl rfl⟩ hx h1.1.1,hbor i y ⟨_,hki,hpp,hpa,.inr rfl⟩ hy h1.1.2,h1.2⟩
    .right;left
     simp only[aML,Bool.and_eq_true,pU,Bool.not_eq_true',(aZ y).2.2.1,Option.isNone_iff_eq_none] at h1;obtain⟨⟨⟨⟨q1,q2⟩,q3⟩,q4⟩,q5⟩:=h1
     have q2':dX y=false:=by
      obtain⟨d,op,g⟩:=y
      cases op<;>first
       |exact q2
       |(exfalso;revert q5;simp[aJ.bare,AOp.bare,AOp.bare0])
     refine⟨hbor k x ⟨_,hki,hpp,hpa,.inl rfl⟩ hx q1,q2',q3,q4,?_⟩;obtain⟨dy,opy,gy⟩:=y;obtain⟨dx,opx,gx⟩:=x;cases opy<;>simp only[aJ.bare,AOp.bare,AOp.bare0] at q5<;>try(cases q5;done)
     .refine .inl ⟨_,_,_,rfl,?_⟩;cases opx<;>first|exact q5|simp[aAx,AOp.bare,AOp.bare0] at q5
     .right
      cases opx<;>simp only[AOp.bare,AOp.bare0] at q5<;>try(cases q5;done)
      exact⟨_,_,_,_,_,.inl rfl,.inl rfl⟩
     .right
      cases opx<;>simp only[AOp.bare,AOp.bare0] at q5<;>try(cases q5;done)
      exact⟨_,_,_,_,_,.inr rfl,.inl rfl⟩
   .have hN:=h;simp only[aAy,bareAt k x hx,bareAt i y hy,Bool.and_eq_true,Bool.or_eq_true] at h;refine⟨?_,h.1.1.2,h.1.2⟩;rcases h.1.1.1 with h1|h1|h1
    .right;right
     simp only[aME,Bool.and_eq_true,pU,Bool.not_eq_true',(aZ y).2.2.1,(aZ x).2.2.1,(aZ y).2.1,Option.isNone_iff_eq_none] at h1;obtain⟨⟨⟨⟨⟨⟨⟨q1,q2⟩,q3⟩,q4⟩,q5⟩,q6⟩,q7⟩,q8⟩:=h1
     have kx:∃k b A X,x.op=.append k b A X∨x.op=.appendC k b A X:=by
      obtain⟨dx,opx,gx⟩:=x;cases opx<;>simp only[aJ.bare,AOp.bare,AOp.bare0] at q7<;>try(cases q7;done)
      .exact⟨_,_,_,_,.inl rfl⟩
      .exact⟨_,_,_,_,.inr rfl⟩
     have q1':dX x=false:=by
      obtain⟨k',b',A',X',h|h⟩:=kx<;>simp only[dX,h,qG,Bool.false_and]
     refine⟨q1',hbor i y ⟨_,hki,hpp,hpa,.inr rfl⟩ hy q2,q3,q4,q5,kx,.inr ?_⟩;obtain⟨dy,opy,gy⟩:=y;cases opy<;>simp only[aJ.bare,AOp.bare,AOp.bare0,aBz] at q8<;>first|rfl|(cases q8;done)
    .right;left
     have hh:=h1;simp only[aKH,Bool.and_eq_true,pU,Bool.not_eq_true',(aZ y).2.2.1,(aZ x).2.1,Option.isNone_iff_eq_none] at h1;obtain⟨⟨⟨⟨⟨⟨q1,q2⟩,q3⟩,q4⟩,q6⟩,q7⟩,q8⟩:=h1;obtain⟨d,hdx⟩:=Option.isSome_iff_exists.1 q6;have hmark:=hno k x d hx hdx (hmk k i x y _ hki hN hx hy (by unfold aFG;rw[if_pos hh,(aZ x).2.1,hdx];exact List.mem_append_left _ (List.mem_singleton.2 rfl)))
     have ky:∃k b A X,y.op=.append k b A X∨y.op=.appendC k b A X:=by
      obtain⟨dy,opy,gy⟩:=y;cases opy<;>simp only[aJ.bare,AOp.bare,AOp.bare0] at q7<;>try(cases q7;done)
      .exact⟨_,_,_,_,.inl rfl⟩
      .exact⟨_,_,_,_,.inr rfl⟩
     have q2':dX y=false:=by
      obtain⟨k',b',A',X',h|h⟩:=ky<;>simp only[dX,h,qG,Bool.false_and]
     refine⟨hbor k x ⟨_,hki,hpp,hpa,.inl rfl⟩ hx q1,q2',q3,q4,.inr ?_⟩;obtain⟨k',b',A',X',hky⟩:=ky;refine⟨k',b',A',X',.tmp 0,hky,.inr ?_⟩;obtain⟨dx,opx,gx⟩:=x;cases opx<;>simp only[aJ.bare,AOp.bare,AOp.bare0] at q8<;>try(cases q8;done)
     case load g n a=>exact absurd rfl (hmark.1 g n a)
     case fieldAddr o a=>exact absurd rfl (hmark.2 o a)
     case loadV g n a=>exact trivial
     case fieldV o a=>exact trivial
    .right;right
     have hh:=h1;simp only[aJQ,Bool.and_eq_true,pU,Bool.not_eq_true',(aZ y).2.2.1,(aZ x).2.2.1,(aZ y).2.1,Option.isNone_iff_eq_none] at h1;obtain⟨⟨⟨⟨⟨⟨⟨q1,q2⟩,q3⟩,q4⟩,q5⟩,q6⟩,q7⟩,q8⟩:=h1;obtain⟨d,hdy⟩:=Option.isSome_iff_exists.1 q6;have hmark:=hno i y d hy hdy (hmk k i x y _ hki hN hx hy (by unfold aFG;rw[if_pos hh,(aZ y).2.1,hdy];exact List.mem_append_right _ (List.mem_singleton.2 rfl)))
     have kx:∃k b A X,x.op=.append k b A X∨x.op=.appendC k b A X:=by
      obtain⟨dx,opx,gx⟩:=x;cases opx<;>simp only[aJ.bare,AOp.bare,AOp.bare0] at q7<;>try(cases q7;done)
      .exact⟨_,_,_,_,.inl rfl⟩
      .exact⟨_,_,_,_,.inr rfl⟩
     have q1':dX x=false:=by
      obtain⟨k',b',A',X',h|h⟩:=kx<;>simp only[dX,h,qG,Bool.false_and]
     refine⟨q1',hbor i y ⟨_,hki,hpp,hpa,.inr rfl⟩ hy q2,q3,q4,q5,kx,?_⟩;obtain⟨dy,opy,gy⟩:=y;cases opy<;>simp only[aJ.bare,AOp.bare,AOp.bare0] at q8<;>try(cases q8;done)
     case load g n a=>exact absurd rfl (hmark.1 g n a)
     case fieldAddr o a=>exact absurd rfl (hmark.2 o a)
     case loadV g n a=>subst q8;exact .inl (.inl ⟨_,_,rfl⟩)
     case fieldV o a=>exact .inl (.inr ⟨_,_,rfl⟩)
  have hplan:Plan P C ops aops F:=by
   refine⟨λj ao hj=>?_,hlen,λi o ho e he hb=>?_,λk i hk hi hf hna=>?_,λk hF x d hx hd j y hjk hy hyd=>?_⟩
   .obtain⟨o,q1,q2⟩:=g2 j ao hj;exact⟨o,by simpa using q1,q2⟩
   .simp only[aMR,List.all_eq_true,List.mem_range] at hback;have:=hback i (Array.getElem?_eq_some_iff.1 ho).1;rw[ho] at this;have:=Array.all_eq_true'.1 this e he;simpa[hb] using this
   .have hm':=hmem k i hk hi hf
    have hpp:(aCz (aops.map aJ.bare) k i||aAy ops (aops.map aJ.bare) k i)=true:=by
     have:=hpairs (k,i) hm';simp only[hna,Bool.or_false] at this;exact this
    exact⟨⟨_,hm',hpp,hna,.inl rfl⟩,⟨_,hm',hpp,hna,.inr rfl⟩,λx y hx hy=>(hpair k i hm' hpp hna x y hx hy).1⟩
   .obtain⟨⟨k',i'⟩,hp,hpp,hpa,hpk⟩:=hF
    have hlt:k'<aops.length∧i'<aops.length:=by
     simp only[qL,List.mem_flatMap,List.mem_range,List.mem_filterMap] at hp;obtain⟨i2,h1,k2,h2,h3⟩:=hp;split at h3
     .simp only[Option.some.injEq,Prod.mk.injEq] at h3;omega
     .cases h3
    have hu:=hpair k' i' hp hpp hpa aops[k'] aops[i'] (by simp[hlt.1]) (by simp[hlt.2])
    have hu:wR (aops.map aJ.bare) k=true:=by
     rcases hpk with h|h
     .simp only at h;subst h;exact hu.2.1
     .simp only at h;subst h;exact hu.2.2
    unfold wR at hu;have e1:((aops.map aJ.bare)[k]?).bind (·.dst)=some d:=by rw[bareAt k x hx];simp[(aZ x).2.1,hd]
    have e2:((aops.map aJ.bare)[j]?).bind (·.dst)=some d:=by rw[bareAt j y hy];simp[(aZ y).2.1,hyd]
    rw[e1] at hu;simp only[List.all_eq_true,List.mem_range,List.length_map] at hu;have hjl:=(List.getElem?_eq_some_iff.1 hy).1;have:=hu j hjl;rw[e2] at this;simp[hjk] at this
  have hok':OK C σ.f a {w with drawn:=w.drawn+1} S ρ κ:=hok.ext (Ext.of_heap rfl rfl rfl);refine wp_region_any hm ?_;refine aNJ hplan hQ ops.size (List.range ops.size) _ σ a _ S ρ κ (by simp) List.pairwise_lt_range (by simp) (λi=>?_) (λi _ hF x d hx hd=>hjunk i x d hF hx hd) (λj o ho hl=>?_) ?_ hok'
  .simp only[List.mem_range];constructor
   .intro h;exact⟨h,by simp[h]⟩
   .exact λh=>h.1
  .exfalso;have hj:=(Array.getElem?_eq_some_iff.1 ho).1;simp[hj] at hl
  .have e:atL aops (List.range ops.size)=aops:=by
    rw[hlen];unfold atL
    have:∀(l:List aJ) (k:Nat),(List.range' k l.length).filterMap (λi=>(List.replicate k default++l)[i]?)=l:=by
     intro l
     induction l with
     |nil=>intro k;simp
     | cons x r ih =>
      intro k;rw[List.length_cons,List.range'_succ,List.filterMap_cons];have h1:(List.replicate k default++x::r)[k]? = some x:=by simp
      rw[h1];have:=ih (k+1);rw[show List.replicate k (default:aJ)++x::r=(List.replicate k default++[x])++r by simp]
      have h2:∀i,i∈List.range' (k+1) r.length->((List.replicate k (default:aJ)++[x])++r)[i]? = (List.replicate (k+1) default++r)[i]?:=by
       intro i hi;have:=(List.mem_range'_1.1 hi).1;rw[List.getElem?_append_right (by simp;omega),List.getElem?_append_right (by simp;omega)];simp
      rw[x9 h2];simp only;exact congrArg (x :: ·) this
    have:=this aops 0;simp only[List.replicate_zero,List.nil_append] at this;rw[List.range_eq_range',this]
   rw[e];exact aJr aops σ hv
 .cases hd
def bW (P:Program) (f:FuncId) (fn:Func) (ac:aF):Prop:=
 P.funcs[f]? = some fn∧(fn.body.bind (bE P fn.ntmps (bG P)))=some ac.bare∧(fn.name != "runtime.NumGoroutine")=true
theorem bW.fn {f:FuncId}{fn:Func}{ac:aF} (h:bW P f fn ac) (hm:P.follows .mixedOrders=true) {hin:List Blk}{args:List AV}{r:AV}{H:List (Option Blk)} (nt:Nat) (U:List ResultVar) (B:List Name) (F:List Blk) (L:fn.ntmps=nt) (O:fn.results.toList=U)
  (ho:H=F.map some) (I:args.length<=nt) (J:nodupB B=true) (hB:∀j,j<hin.length->B[j]? = some (.b j))
  (hw:∀C:Ctx,wpc P C (bG P) ac (aBN P U B r F) (λe σ=>match e with|.ret=>aBN P U B r F σ|.exit _=>False) ⟨ini 0 args,aBe 0 hin⟩) :
  Fn P f hin args r H:=by
 subst L;subst O;subst ho;obtain⟨Z,h2,h3⟩:=h;obtain⟨Y,hb,hc⟩:=Option.bind_eq_some_iff.1 h2;exact Fn.intro (bZ hm) B Z hb (by simpa using h3) hc I (tO J) hB λC _=>hw C
end
end Go.Vs
