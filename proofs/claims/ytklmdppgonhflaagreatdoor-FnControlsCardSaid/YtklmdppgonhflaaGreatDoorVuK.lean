/- Contracts out of calls that only add memory. -/
import Derived.Test.YtklmdppgonhflaaGreatDoorVuA
import Derived.Below
set_option linter.all false
set_option maxHeartbeats 8000000
namespace Go.Vs
section
variable {P:Program}
variable {I:Envs}{C1:Ctx}{σ τ:St}{a:Act}{w:World}{S:Nat->Prop}
variable {nt:Nat}{dr:Nat->Array Oper->Option (List Nat)}{Q:Exit->Act->World->Prop}
end
section
variable [Envs] {P:Program}{C:Ctx}{a:Act}{w:World}{S:Nat->Prop}{ρ:Name->Option Nat}{κ:Name->Nat}
theorem Own.notS {x:Option Nat}{c k:Nat}{rows:List (List AV)}{v:Value} (M:Own S w x c k rows v) {b:Nat} (G:x=some b):¬S b:=by
 obtain⟨_,H|⟨y,cs,T,fr,F,O,U,J,_⟩⟩:=M.blk
 .rw[G] at H;cases H.1
 .dsimp only at F;rw[G] at F;obtain rfl:=Ay F;exact J rfl
theorem OK.adopt {σ:St} (M:OK C σ.f a w S ρ κ) {n:Name} (Y:dA n σ=true) {x:Option Nat}{c k:Nat}{rows:List (List AV)}{v:Value} (J:Own S w x c k rows v)
  (V:∀b,x=some b->(∀m,(σ.f.h m).isSome->ρ m≠some b)∧(C.w0.heap.size<=b∨C.Mut b)) {t:Nat} (ht:a.tmps.getD t undef=v) :
  OK C (⟨(t,.loc n 0 rows.length)::σ.s,(n,.arr k rows false)::σ.h⟩:St).f a w S (λm=>if m=n then x else ρ m) (λm=>if m=n then c else κ m):=by
 have F:=M.add2 (n:=n) (dS Y) (w':=w) (b:=.arr k rows false) (ox:=x) (kn:=c) (Au _) (λ_ _ _=>rfl) ⟨rfl,rfl⟩ (λb G=>⟨(V b G).1,J.notS G,(V b G).2⟩) (fun ρ' κ' h' F h2 h3=>by
   have:=J.blk;simp only[xU] at this⊢;rw[F,h2];exact this)
 have h2:=F.know (t:=t) (x:=.loc n 0 rows.length) (.loc _ _ _ _ (λk' l' z' U=>by
   simp only[hput,Bj] at U;obtain⟨rfl,rfl,rfl⟩:k=k'∧rows=l'∧false=z':=by simpa using U
   have:=J.loc k rows false rfl;rw[ht];simpa using this))
 have e:(⟨upd σ.f.s (some t) (.loc n 0 rows.length),hput σ.f.h n (some (.arr k rows false))⟩:FSt)=(⟨(t,.loc n 0 rows.length)::σ.s,(n,.arr k rows false)::σ.h⟩:St).f:=by
  simp only[St.f,FSt.mk.injEq];refine⟨funext λu=>?_,funext λm=>?_⟩
  .by_cases O:u=t
   .subst O;simp[upd,look]
   .have ha:¬t=u:=λe=>O e.symm;simp[upd,look,O]
  .by_cases H:m=n
   .subst H;simp[hput,aB]
   .have Z:¬n=m:=λe=>H e.symm;simp[hput,aB,H]
 rw[e] at h2;exact h2
end
section
variable {P:Program}
theorem Own.rc {S:Nat->Prop}{w:World}{x:Option Nat}{c k:Nat}{rows:List (List AV)}{v:Value} (h:Own S w x c k rows v):RC (λb=>x=some b) w (.sl k rows) v:=by
 letI:Envs:=⟨[]⟩
 obtain⟨_,F,cap,rfl,h1,h2,h3,_⟩:=h.loc k rows false rfl;obtain⟨O,G⟩:=h.blk;rcases G with⟨hn,H⟩|⟨y,cs,T,fr,g1,V,g3,_,_,g5,g6,U⟩
 .subst H;refine .sl k [] F cap 0 0 (λ_=>undef) (by simp) (by simp) (by simp) (by simp) (by simp) ⟨by omega,h2⟩
 .refine .sl k rows F cap y 0 (λi=>cs.getD i undef) (λZ=>?_) (λi j hi J=>?_) (λi j hi J=>(U i j hi J).1) (λi j hi J=>?_) O ⟨by omega,h2⟩
  .grind
  .have M:i*k+j<cs.size:=by
    have:i*k+k<=rows.length*k:=by rw[←Ch];exact Bn k hi
    omega
   simp[World.cell?,V,M]
  .have Y:rows.getD i []∈rows:=by
    rw[A8,Ba hi];exact Aa _
   exact RC.mono (S:=λ_=>False) (w:=w) (λ_ h=>h.elim) (λ_ h=>h.elim) (((U i j hi J).2).flat (fF (h.fl _ Y)))
structure Mem where
 x0:Option Nat
 ss:List Value
 xs:Nat->Option Nat
 cs:Nat->Nat
variable {I:Envs}{C1:Ctx}{σ τ:St}{a:Act}{w:World}{S:Nat->Prop}
variable {nt:Nat}{dr:Nat->Array Oper->Option (List Nat)}{Q:Exit->Act->World->Prop}
end
section
section
variable [Envs]
variable {P:Program}{nt:Nat}{dr:Nat->Array Oper->Option (List Nat)}{Q:Exit->Act->World->Prop}{a:Act}{w:World}
def RgL (P:Program) (nt:Nat) (aops:List aM) (Q:Exit->Act->World->Prop) (a:Act) (w:World):Prop:=
 ∀(ops:Array Oper) (L:List Nat),L.length=aops.length->(∀(j:Nat) (ao:aM),aops[j]? = some ao->∃(i:Nat) (o:Oper),L[j]? = some i∧ops[i]? = some o∧nZ P nt ops o=some ao.bare)->wpOps P ops Q L a w
theorem RgL.nil (h:Q .normal a w):RgL P nt [] Q a w:=by
 intro ops L F _;have:L=[]:=by simpa using F
 subst this;exact h
theorem RgL.fw {C:Ctx}{K:St->Prop}{post:List aM} (V:∀(σ:St) (a:Act) (w:World) (S:Nat->Prop) (ρ:Name->Option Nat) (κ:Name->Nat),K σ->OK C σ.f a w S ρ κ->RgL P C.nt post Q a w) :
  ∀(pre:List aM) (σ:St) (a:Act) (w:World) (S:Nat->Prop) (ρ:Name->Option Nat) (κ:Name->Nat),vc P K pre σ->OK C σ.f a w S ρ κ->RgL P C.nt (pre++post) Q a w
 | [],σ,a,w,S,ρ,κ,G,F=>V σ a w S ρ κ G F
 | ao::r,σ,a,w,S,ρ,κ,G,F=>by
  intro ops L hl hs;cases L with
  |nil=>simp at hl
  |cons i L =>
  obtain⟨i',o,hi,ho,hc⟩:=hs 0 ao (by simp);obtain rfl:i=i':=by simpa using hi
  obtain⟨h1,h2,Z,h4⟩:=iQ hc;rw[wpOps_cons]
  have ih:∀(σ:St) (a:Act) (w:World) (S:Nat->Prop) (ρ:Name->Option Nat) (κ:Name->Nat),vc P K r σ->OK C σ.f a w S ρ κ->wpOps P ops Q L a w:=fun σ a w S ρ κ G F =>
   RgL.fw V r σ a w S ρ κ G F ops L (by simpa using hl) (λj Y hj=>by
     obtain⟨i',o',M,O,U⟩:=hs (j+1) Y (by simpa using hj);exact⟨i',o',by simpa using M,O,U⟩)
  have go:bP P ao.dst σ (vc P K r) ao.op->o.wp P a w (wpOps P ops Q L) Q:=λha =>
   Oper.wp_mono (λa' w' ⟨σ',S',ρ',κ',V,hok'⟩=>ih σ' a' w' S' ρ' κ' V hok') (wZ (P:=P) h1 F Z (by rw[h2];exact ha))
  unfold wpOp;rw[ho];simp only[vc] at G;rcases h4 with⟨M,O⟩|⟨j,H,t,M,O,U⟩
  .rw[O] at G;have:Region.wanted o (yielded ops a.tmps)=true:=by simp[Region.wanted,M]
   simp only[this,Bj];exact .inl (go G)
  .rw[O] at G;simp only at G;split at G
   .rename_i b hb;have hw:=zW F M U hb;simp only[hw];by_cases J:b=H
    .simp only[J,beq_self_eq_true,Bj];exact .inl (go ((l8.1 G).1 J))
    .have:(b==H)=false:=by simpa using J
     simp only[this,AO,Bc];have hn:b = !H:=by cases b<;>cases H<;>simp_all
     refine ih _ _ _ S ρ κ ((l8.1 G).2 hn) ?_;have:=F.put (x:=.v undef) (v:=undef) (.clo (.v _)) Z;rw[h2] at this⊢;simpa[St.f,lI,undef] using this
   .rename_i cs hb;have hw:=zV F M U hb;simp only[hw,AO,Bc];refine ih _ _ _ S ρ κ G ?_;have:=F.put (x:=.v undef) (v:=undef) (.clo (.v _)) Z;rw[h2] at this⊢;simpa[St.f,lI,undef] using this
   .exact G.elim
theorem RgL.op {o:aM}{r:List aM} (hg:o.guard=none) (h:∀(op:Oper) (ops:Array Oper),nZ P nt ops op=some o.bare->op.wp P a w (RgL P nt r Q) Q):RgL P nt (o::r) Q a w:=by
 intro ops L M O;cases L with
 |nil=>simp at M
 |cons i L =>
 obtain⟨H,op,hi,ho,J⟩:=O 0 o (by simp);obtain rfl:i=H:=by simpa using hi
 obtain⟨_,_,_,h4⟩:=iQ J
 have G:op.guard=none:=by
  rcases h4 with⟨h,_⟩|⟨j,U,t,_,h,_⟩
  .exact h
  .rw[hg] at h;cases h
 rw[wpOps_cons];unfold wpOp;rw[ho];have:Region.wanted op (yielded ops a.tmps)=true:=by simp[Region.wanted,G]
 simp only[this,Bj]
 exact .inl (Oper.wp_mono (λa' w' hr=>hr ops L (by simpa using M) λj F hj=>by
   obtain⟨H,o',V,Y,Z⟩:=O (j+1) F (by simpa using hj);exact⟨H,o',by simpa using V,Y,Z⟩) (h op ops J))
theorem At.rg {aops:List aM}{U:List Nat} (h:RgL P nt aops Q a w):At P nt dr (.region aops U []) Q a w:=by
 intro c F O;cases c
 case region id ops draw =>
  simp only[bN,aD.bare] at F;split at F
  .rename_i Y H;cases ho:aCC P nt ops ops.toList with
   |none=>rw[ho] at F;cases F
   | some l =>
    rw[ho] at F;simp only[AU,Ab,aD.region.injEq,Ck] at F;obtain⟨hl,J⟩:=F;subst hl;subst J;cases draw with
    | true =>
     have hd:dr nt ops=some []:=by simpa using H
     simp[zB,hd] at O
    | false =>
     obtain⟨Z,g2⟩:=nX ho;have G:ops.size=aops.length:=by simpa using Z
     refine wp_region (h ops _ (by rw[List.length_range,G]) λj ao V=>?_);obtain⟨o,q1,q2⟩:=g2 j ao V
     have M:j<ops.size:=by
      rw[G];rcases Db j aops.length with h|h
      .exact h
      .simp[List.getElem?_eq_none h] at V
     exact⟨j,o,by simp[M],by simpa using q1,q2⟩
  .cases F
 all_goals(simp only[bN,aD.bare] at F;first|(cases F;done)|(split at F<;>simp at F)|(simp at F))
def aCj (ops:Array Oper):Nat->Array Bool->List (List Nat)
 |0,_=>[[]]
 | fuel+1,listed =>
  match(List.range ops.size).filter λi=>!listed.getD i true&&((ops[i]?).map (·.after.all λe=>!Region.binds .any e||listed.getD e.on false)).getD false with
  | []=>[[]]
  |rs=>rs.flatMap λi=>(aCj ops fuel (listed.setIfInBounds i true)).map (i :: ·)
theorem aEt (ops:Array Oper):∀(fuel t:Nat) (F:Array Bool) (G:List Nat),∃L,L∈aCj ops fuel F∧Region.linearise.go .any ops fuel t F G=G.reverse++L
 |0,t,F,G=>⟨[],by simp[aCj],by simp[Region.linearise.go]⟩
 | fuel+1,t,F,G=>by
  simp only[Region.linearise.go,aCj];generalize M:((List.range ops.size).filter λi=>!F.getD i true&&((ops[i]?).map (·.after.all λe=>!Region.binds .any e||F.getD e.on false)).getD false)=rs;cases rs with
  |nil=>exact⟨[],by simp,by simp⟩
  | cons x xs =>
   have H:t%(x::xs).length<(x::xs).length:=Nat.mod_lt _ (by simp);rw[Ba H];obtain⟨L,J,h2⟩:=aEt ops fuel (t/(x::xs).length) (F.setIfInBounds ((x::xs)[t%(x::xs).length]) true) ((x::xs)[t%(x::xs).length]::G);refine⟨(x::xs)[t%(x::xs).length]::L,?_,?_⟩
   .exact Dz.2 ⟨_,Aa H,Bq.2 ⟨L,J,rfl⟩⟩
   .simp only[h2];simp
def aOX (ops:Array Oper):List (List Nat):=aCj ops ops.size (Array.replicate ops.size false)
theorem aHX (ops:Array Oper) (t:Nat):Region.schedule true ops t∈aOX ops:=by
 obtain⟨L,F,h2⟩:=aEt ops ops.size t (Array.replicate ops.size false) []
 have e:Region.schedule true ops t=L:=by
  simp only[Region.schedule,Bool.true_or,Bj,Region.linearise];simpa using h2
 rw[e];exact F
end
variable {P:Program}{nt:Nat}{dr:Nat->Array Oper->Option (List Nat)}{Q:Exit->Act->World->Prop}{a:Act}{w:World}
variable {I:Envs}{C1:Ctx}{σ τ:St}{S:Nat->Prop}
end
section
variable {P:Program}{nt:Nat}{Q:Exit->Act->World->Prop}{a:Act}{w:World}{S:Nat->Prop}
variable {I:Envs}{C1:Ctx}{σ τ:St}
theorem rc_v {v u:Value} (h:RC S w (.v v) u):u=v:=by cases h;rfl
theorem Fn.calls0 [Envs] {f:FuncId}{ys:List AV}{r:AV} (h:Fn P f [] ys r []) (V:nQ r=true) {vs:Array Value} (U:∀b,S b->b<w.heap.size) (Y:Env S w) (M:vs.size=ys.length) (G:∀j,j<ys.length->RC S w (ys.getD j .junk) (vs.getD j undef)) :
  Calls P f vs w λe w'=>∃v S',e=.returned v∧r9 w w'∧RC S' w' r v:=by
 have F:∀n,Hn (([]:List Blk).map some) n=none:=by
  intro n;cases n<;>simp[Hn]
 have H:HOK S w (λ_=>none) (λ_=>0) (Hn (([]:List Blk).map some)):=
  ⟨λn b J=>(by rw[F] at J;cases J),λn m y O _ _ _=>(by rw[F] at O;cases O),U,Y⟩
 refine(h.2 S w _ _ vs H (by simp) M λj Z=>.clo (G j Z)).mono ?_;rintro e w' ⟨u,S',ρ',κ',rfl,hp,hu⟩;exact⟨u,S',rfl,⟨hp.size,λb J=>hp.old b J aJB,hp.out⟩,RV.closed hu V⟩
end
section
section
variable [Envs]
variable {P:Program}{nt:Nat}{Q:Exit->Act->World->Prop}
theorem aCb {ops:Array Oper}{i:Nat}{oi:Oper}{v:Value} (hi:ops[i]? = some oi) (F:∀cs b,oi.op≠.select cs b) (O:∀c a w,¬Q (.panic c) a w) :
  ∀(L1 L2:List Nat) (a:Act) (w:World),(∀j,j∈L1->∃G,ops[j]? = some G∧oi.apart ops G=true∧∀cs b,G.op≠.select cs b)->Yields P ops oi v a->wpOps P ops Q (L1++L2) (a.put oi.dst v) w->wpOps P ops Q (L1++i::L2) a w
 | [],L2,a,w,_,hy,h=>by
  show wpOps P ops Q (i::L2) a w
  rw[wpOps_cons];exact hy.wpOp hi h
 | j::L1,L2,a,w,hL,hy,h=>by
  obtain⟨G,J,H,M⟩:=hL j Dn;show wpOps P ops Q (j::(L1++i::L2)) a w
  rw[wpOps_cons];have h':wpOps P ops Q (j::(L1++L2)) (a.put oi.dst v) w:=h;rw[wpOps_cons] at h';refine wpOp_mono (λV w' U=>?_) (wpOp_put J H F M (λc a w Y=>(O c _ _ Y).elim) hy h');exact aCb hi F O L1 L2 V w' (λj J=>hL j (C8 _ J)) U.1 U.2
def aIs (o:Oper):Bool:=match o.op with
 |.select _ _=>false
 |_=>true
theorem aDv {o:Oper} (h:aIs o=true):∀cs b,o.op≠.select cs b:=by
 intro cs b e;simp[aIs,e] at h
end
section
variable [I:Envs]
variable {P:Program}{nt:Nat}{Q:Exit->Act->World->Prop}{a:Act}{w:World}
end
variable {P:Program}{I:Envs}{C1:Ctx}{σ τ:St}{S:Nat->Prop}{a:Act}{w:World}
end
section

end
section
section
variable [Envs]
variable {P:Program}{nt:Nat}{Q:Exit->Act->World->Prop}
end
section
variable [I:Envs]
variable {P:Program}{nt:Nat}{Q:Exit->Act->World->Prop}{a:Act}{w:World}
end
variable {P:Program}{nt:Nat}{Q:Exit->Act->World->Prop}{a:Act}{w:World}
variable {I:Envs}{C1:Ctx}{σ:St}{S:Nat->Prop}
end
section
section
variable [Envs]
variable {P:Program}
theorem Fn.of_grew {f:FuncId}{args:List AV}{x:AV} (H:xP P f) (V:∀y,y∈args->nQ y=true)
  (h : ∀(S:Nat->Prop) (w:World) (vs:Array Value),(∀b,S b->b<w.heap.size)->Env S w->vs.size=args.length->(∀j,j<args.length->RC S w (args.getD j .junk) (vs.getD j undef))->
    Calls P f vs w λe w'=>∃(v:Value) (D:Nat->Prop),e=.returned v∧r9 w w'∧(∀b,D b->w.heap.size<=b∧b<w'.heap.size)∧RC D w' x v):Fn P f [] args x []:=by
 refine⟨H,λS w ρ κ vs G _ U J=>(h S w vs G.dom G.env U λj M=>(J j M).closed (V _ ?_)).mono ?_⟩
 .rw[A8,Ba M];exact Aa _
 .rintro e w' ⟨v,D,rfl,hg,O,hr⟩
  have F:∀n,Hn ([]:List (Option Blk)) n=none:=by
   intro n;cases n<;>simp[Hn]
  refine⟨_,λb=>S b∨D b,λ_=>none,λ_=>0,rfl,⟨⟨λn b H=>(by rw[F] at H;cases H),λn m y O _ _ _=>(by rw[F] at O;cases O),λb H=>H.elim (λh=>AZ (G.dom b h) hg.size) λh=>(O b h).2,(hg.env G.dom G.env).mono (λ_ h=>.inl h) λ_ _=>rfl⟩,hg.size,λb H _=>hg.old b H,λ_ h=>.inl h,λb H=>H.elim .inl λh=>.inr (.inl (O b h).1),λj x M=>(by simp at M),hg.out,λj Y M=>(by simp at M)⟩,.clo ?_⟩;exact hr.mono (λ_ h=>.inr h) λ_ _=>rfl
theorem r9.alloc (w:World) (o:Obj):r9 w (w.alloc o):=
 ⟨by show w.heap.size<=(w.heap.push o).size;simp,λb F=>by show(w.heap.push o)[b]? = _;simp[Array.getElem?_push,Nat.ne_of_lt F],rfl,rfl⟩
open Go.RowKit in
theorem r9.of_below {w w':World} (h:Below w.heap.size w w'):r9 w w':=⟨h.size,h.block,h.os,h.output⟩
end
end
end Go.Vs
