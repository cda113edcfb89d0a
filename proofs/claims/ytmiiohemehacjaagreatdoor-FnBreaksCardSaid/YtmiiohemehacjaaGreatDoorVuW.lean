/- A contract that hands a row over, told by value. -/
import Derived.Test.YtmiiohemehacjaaGreatDoorVuA
import Derived.Below
import Derived.Deep.Upon
import Derived.Deep.Draws
import Derived.Lib.SliceRun
import Derived.Laws.AppendOwn
set_option linter.all false
set_option maxHeartbeats 8000000
namespace Go.Vs
section
variable {P:Program}
variable {I:Envs}{C1:Ctx}{σ τ:St}{a:Act}{w:World}{S:Nat->Prop}
variable {nt:Nat}{dr:Nat->Array Oper->Option (List Nat)}{Q:Exit->Act->World->Prop}
end
section
variable [Envs] {P:Program}{C:Ctx}{a:Act}{w:World}{S:Nat->Prop}{ρ:Name->Option Nat}{κ:Name->Nat}
theorem Own.notS {x:Option Nat}{c k:Nat}{rows:List (List AV)}{v:Value} (J:Own S w x c k rows v) {b:Nat} (F:x=some b):¬S b:=by
 obtain⟨_,G|⟨y,cs,T,fr,u,L,M,H,_⟩⟩:=J.blk
 .rw[F] at G;cases G.1
 .dsimp only at u;rw[F] at u;obtain rfl:=Av u;exact H rfl
theorem OK.adopt {σ:St} (L:OK C σ.f a w S ρ κ) {n:Name} (V:dE n σ=true) {x:Option Nat}{c k:Nat}{rows:List (List AV)}{v:Value} (J:Own S w x c k rows v)
  (U:∀b,x=some b->(∀m,(σ.f.h m).isSome->ρ m≠some b)∧(C.w0.heap.size<=b∨C.Mut b)) {t:Nat} (Z:a.tmps.getD t undef=v) :
  OK C (⟨(t,.loc n 0 rows.length)::σ.s,(n,.arr k rows false)::σ.h⟩:St).f a w S (λm=>if m=n then x else ρ m) (λm=>if m=n then c else κ m):=by
 have F:=L.add2 (n:=n) (dV V) (w':=w) (b:=.arr k rows false) (ox:=x) (kn:=c) (AL _) (λ_ _ _=>rfl) ⟨rfl,rfl⟩ (λb G=>⟨(U b G).1,J.notS G,(U b G).2⟩) (fun ρ' κ' h' F h2 h3=>by
   have:=J.blk;simp only[wW] at this⊢;rw[F,h2];exact this)
 have h2:=F.know (t:=t) (x:=.loc n 0 rows.length) (.loc _ _ _ _ (λk' l' z' O=>by
   simp only[hput,Bt] at O;obtain⟨rfl,rfl,rfl⟩:k=k'∧rows=l'∧false=z':=by simpa using O
   have:=J.loc k rows false rfl;rw[Z];simpa using this))
 have e:(⟨upd σ.f.s (some t) (.loc n 0 rows.length),hput σ.f.h n (some (.arr k rows false))⟩:FSt)=(⟨(t,.loc n 0 rows.length)::σ.s,(n,.arr k rows false)::σ.h⟩:St).f:=by
  simp only[St.f,FSt.mk.injEq];refine⟨funext λu=>?_,funext λm=>?_⟩
  .by_cases M:u=t
   .subst M;simp[upd,look]
   .have ha:¬t=u:=λe=>M e.symm;simp[upd,look,M]
  .by_cases H:m=n
   .subst H;simp[hput,aB]
   .have Y:¬n=m:=λe=>H e.symm;simp[hput,aB,H]
 rw[e] at h2;exact h2
end
section
variable {P:Program}
theorem Own.rc {S:Nat->Prop}{w:World}{x:Option Nat}{c k:Nat}{rows:List (List AV)}{v:Value} (h:Own S w x c k rows v):RC (λb=>x=some b) w (.sl k rows) v:=by
 letI:Envs:=⟨[]⟩
 obtain⟨_,u,cap,rfl,h1,h2,h3,_⟩:=h.loc k rows false rfl;obtain⟨L,F⟩:=h.blk;rcases F with⟨hn,G⟩|⟨y,cs,T,fr,Y,O,Z,_,_,g5,g6,M⟩
 .subst G;refine .sl k [] u cap 0 0 (λ_=>undef) (by simp) (by simp) (by simp) (by simp) (by simp) ⟨by omega,h2⟩
 .refine .sl k rows u cap y 0 (λi=>cs.getD i undef) (λV=>?_) (λi j hi H=>?_) (λi j hi H=>(M i j hi H).1) (λi j hi H=>?_) L ⟨by omega,h2⟩
  .grind
  .have J:i*k+j<cs.size:=by
    have:i*k+k<=rows.length*k:=by rw[←Ck];exact BA k hi
    omega
   simp[World.cell?,O,J]
  .have U:rows.getD i []∈rows:=by
    rw[Bc,Bf hi];exact Am _
   exact RC.mono (S:=λ_=>False) (w:=w) (λ_ h=>h.elim) (λ_ h=>h.elim) (((M i j hi H).2).flat (fJ (h.fl _ U)))
variable {I:Envs}{C1:Ctx}{σ τ:St}{a:Act}{w:World}{S:Nat->Prop}
variable {nt:Nat}{dr:Nat->Array Oper->Option (List Nat)}{Q:Exit->Act->World->Prop}
end
section
section
variable [Envs]
variable {P:Program}{nt:Nat}{dr:Nat->Array Oper->Option (List Nat)}{Q:Exit->Act->World->Prop}{a:Act}{w:World}
def RgL (P:Program) (nt:Nat) (aops:List aL) (Q:Exit->Act->World->Prop) (a:Act) (w:World):Prop:=
 ∀(ops:Array Oper) (L:List Nat),L.length=aops.length->(∀(j:Nat) (ao:aL),aops[j]? = some ao->∃(i:Nat) (o:Oper),L[j]? = some i∧ops[i]? = some o∧nA P nt ops o=some ao.bare)->wpOps P ops Q L a w
theorem RgL.nil (h:Q .normal a w):RgL P nt [] Q a w:=by
 intro ops L u _;have:L=[]:=by simpa using u
 subst this;exact h
theorem RgL.fw {C:Ctx}{K:St->Prop}{post:List aL} (U:∀(σ:St) (a:Act) (w:World) (S:Nat->Prop) (ρ:Name->Option Nat) (κ:Name->Nat),K σ->OK C σ.f a w S ρ κ->RgL P C.nt post Q a w) :
  ∀(pre:List aL) (σ:St) (a:Act) (w:World) (S:Nat->Prop) (ρ:Name->Option Nat) (κ:Name->Nat),vc P K pre σ->OK C σ.f a w S ρ κ->RgL P C.nt (pre++post) Q a w
 | [],σ,a,w,S,ρ,κ,F,u=>U σ a w S ρ κ F u
 | ao::r,σ,a,w,S,ρ,κ,F,u=>by
  intro ops L hl hs;cases L with
  |nil=>simp at hl
  |cons i L =>
  obtain⟨i',o,hi,ho,hc⟩:=hs 0 ao (by simp);obtain rfl:i=i':=by simpa using hi
  obtain⟨h1,h2,Y,h4⟩:=iJ hc;rw[wpOps_cons]
  have ih:∀(σ:St) (a:Act) (w:World) (S:Nat->Prop) (ρ:Name->Option Nat) (κ:Name->Nat),vc P K r σ->OK C σ.f a w S ρ κ->wpOps P ops Q L a w:=fun σ a w S ρ κ F u =>
   RgL.fw U r σ a w S ρ κ F u ops L (by simpa using hl) (λj V hj=>by
     obtain⟨i',o',J,M,O⟩:=hs (j+1) V (by simpa using hj);exact⟨i',o',by simpa using J,M,O⟩)
  have go:bN P ao.dst σ (vc P K r) ao.op->o.wp P a w (wpOps P ops Q L) Q:=λha =>
   Oper.wp_mono (λa' w' ⟨σ',S',ρ',κ',U,hok'⟩=>ih σ' a' w' S' ρ' κ' U hok') (vU (P:=P) h1 u Y (by rw[h2];exact ha))
  unfold wpOp;rw[ho];simp only[vc] at F;rcases h4 with⟨J,M⟩|⟨j,G,t,J,M,O⟩
  .rw[M] at F;have:Region.wanted o (yielded ops a.tmps)=true:=by simp[Region.wanted,J]
   simp only[this,Bt];exact .inl (go F)
  .rw[M] at F;simp only at F;split at F
   .rename_i b Z;have hw:=yO u J O Z;simp only[hw];by_cases H:b=G
    .simp only[H,Dj,Bt];exact .inl (go ((lG.1 F).1 H))
    .have:(b==G)=false:=by simpa using H
     simp only[this,A8,Bg];have hn:b = !G:=by cases b<;>cases G<;>simp_all
     refine ih _ _ _ S ρ κ ((lG.1 F).2 hn) ?_;have:=u.put (x:=.v undef) (v:=undef) (.clo (.v _)) Y;rw[h2] at this⊢;simpa[St.f,kH,undef] using this
   .rename_i cs Z;have hw:=yN u J O Z;simp only[hw,A8,Bg];refine ih _ _ _ S ρ κ F ?_;have:=u.put (x:=.v undef) (v:=undef) (.clo (.v _)) Y;rw[h2] at this⊢;simpa[St.f,kH,undef] using this
   .exact F.elim
theorem RgL.op {o:aL}{r:List aL} (hg:o.guard=none) (h:∀(op:Oper) (ops:Array Oper),nA P nt ops op=some o.bare->op.wp P a w (RgL P nt r Q) Q):RgL P nt (o::r) Q a w:=by
 intro ops L J M;cases L with
 |nil=>simp at J
 |cons i L =>
 obtain⟨G,op,hi,ho,H⟩:=M 0 o (by simp);obtain rfl:i=G:=by simpa using hi
 obtain⟨_,_,_,Z⟩:=iJ H
 have F:op.guard=none:=by
  rcases Z with⟨h,_⟩|⟨j,O,t,_,h,_⟩
  .exact h
  .rw[hg] at h;cases h
 rw[wpOps_cons];unfold wpOp;rw[ho];have:Region.wanted op (yielded ops a.tmps)=true:=by simp[Region.wanted,F]
 simp only[this,Bt]
 exact .inl (Oper.wp_mono (λa' w' hr=>hr ops L (by simpa using J) λj u hj=>by
   obtain⟨G,o',U,V,Y⟩:=M (j+1) u (by simpa using hj);exact⟨G,o',by simpa using U,V,Y⟩) (h op ops H))
theorem At.rg {aops:List aL}{M:List Nat} (h:RgL P nt aops Q a w):At P nt dr (.region aops M []) Q a w:=by
 intro c u L;cases c
 case region id ops draw =>
  simp only[bM,aF.bare] at u;split at u
  .rename_i U G;cases ho:aCg P nt ops ops.toList with
   |none=>rw[ho] at u;cases u
   | some l =>
    rw[ho] at u;simp only[Ba,Aj,aF.region.injEq,Ci] at u;obtain⟨hl,H⟩:=u;subst hl;subst H;cases draw with
    | true =>
     have Z:dr nt ops=some []:=by simpa using G
     simp[zB,Z] at L
    | false =>
     obtain⟨V,Y⟩:=mZ ho;have F:ops.size=aops.length:=by simpa using V
     refine wp_region (h ops _ (by rw[List.length_range,F]) λj ao O=>?_);obtain⟨o,q1,q2⟩:=Y j ao O
     have J:j<ops.size:=by
      rw[F];rcases Cw j aops.length with h|h
      .exact h
      .simp[Cr h] at O
     exact⟨j,o,by simp[J],by simpa using q1,q2⟩
  .cases u
 all_goals(simp only[bM,aF.bare] at u;first|(cases u;done)|(split at u<;>simp at u)|(simp at u))
def aBV (ops:Array Oper):Nat->Array Bool->List (List Nat)
 |0,_=>[[]]
 | fuel+1,listed =>
  match(List.range ops.size).filter λi=>!listed.getD i true&&((ops[i]?).map (·.after.all λe=>!Region.binds .any e||listed.getD e.on false)).getD false with
  | []=>[[]]
  |rs=>rs.flatMap λi=>(aBV ops fuel (listed.setIfInBounds i true)).map (i :: ·)
theorem aD0 (ops:Array Oper):∀(fuel t:Nat) (u:Array Bool) (F:List Nat),∃L,L∈aBV ops fuel u∧Region.linearise.go .any ops fuel t u F=F.reverse++L
 |0,t,u,F=>⟨[],by simp[aBV],by simp[Region.linearise.go]⟩
 | fuel+1,t,u,F=>by
  simp only[Region.linearise.go,aBV];generalize J:((List.range ops.size).filter λi=>!u.getD i true&&((ops[i]?).map (·.after.all λe=>!Region.binds .any e||u.getD e.on false)).getD false)=rs;cases rs with
  |nil=>exact⟨[],by simp,by simp⟩
  | cons x xs =>
   have G:t%(x::xs).length<(x::xs).length:=Nat.mod_lt _ (by simp);rw[Bf G];obtain⟨L,H,h2⟩:=aD0 ops fuel (t/(x::xs).length) (u.setIfInBounds ((x::xs)[t%(x::xs).length]) true) ((x::xs)[t%(x::xs).length]::F);refine⟨(x::xs)[t%(x::xs).length]::L,?_,?_⟩
   .exact Dm.2 ⟨_,Am G,BG.2 ⟨L,H,rfl⟩⟩
   .simp only[h2];simp
def aNj (ops:Array Oper):List (List Nat):=aBV ops ops.size (Array.replicate ops.size false)
theorem aG8 (ops:Array Oper) (t:Nat):Region.schedule true ops t∈aNj ops:=by
 obtain⟨L,u,h2⟩:=aD0 ops ops.size t (Array.replicate ops.size false) []
 have e:Region.schedule true ops t=L:=by
  simp only[Region.schedule,Bool.true_or,Bt,Region.linearise];simpa using h2
 rw[e];exact u
end
variable {P:Program}{nt:Nat}{dr:Nat->Array Oper->Option (List Nat)}{Q:Exit->Act->World->Prop}{a:Act}{w:World}
variable {I:Envs}{C1:Ctx}{σ τ:St}{S:Nat->Prop}
end
section
variable {P:Program}{nt:Nat}{Q:Exit->Act->World->Prop}{a:Act}{w:World}{S:Nat->Prop}
variable {I:Envs}{C1:Ctx}{σ τ:St}
end
section
theorem At.closing {P:Program}{nt:Nat}{dr:Nat->Array Oper->Option (List Nat)}{n:Nat}{x:aF}{Q:Exit->Act->World->Prop}{a:Act}{w:World} (h:At P nt dr x Q a w):At P nt dr (.closing n x) Q a w:=h
section
variable [Envs]
variable {P:Program}{nt:Nat}{Q:Exit->Act->World->Prop}
theorem aBP {ops:Array Oper}{i:Nat}{oi:Oper}{v:Value} (hi:ops[i]? = some oi) (u:∀cs b,oi.op≠.select cs b) (L:∀c a w,¬Q (.panic c) a w) :
  ∀(L1 L2:List Nat) (a:Act) (w:World),(∀j,j∈L1->∃F,ops[j]? = some F∧oi.apart ops F=true∧∀cs b,F.op≠.select cs b)->Yields P ops oi v a->wpOps P ops Q (L1++L2) (a.put oi.dst v) w->wpOps P ops Q (L1++i::L2) a w
 | [],L2,a,w,_,hy,h=>by
  show wpOps P ops Q (i::L2) a w
  rw[wpOps_cons];exact hy.wpOp hi h
 | j::L1,L2,a,w,hL,hy,h=>by
  obtain⟨F,H,G,J⟩:=hL j Da;show wpOps P ops Q (j::(L1++i::L2)) a w
  rw[wpOps_cons];have h':wpOps P ops Q (j::(L1++L2)) (a.put oi.dst v) w:=h;rw[wpOps_cons] at h';refine wpOp_mono (λO w' M=>?_) (wpOp_put H G u J (λc a w U=>(L c _ _ U).elim) hy h');exact aBP hi u L L1 L2 O w' (λj H=>hL j (Dh _ H)) M.1 M.2
def aHA (o:Oper):Bool:=match o.op with
 |.select _ _=>false
 |_=>true
theorem aC3 {o:Oper} (h:aHA o=true):∀cs b,o.op≠.select cs b:=by
 intro cs b e;simp[aHA,e] at h
end
section
variable [I:Envs]
variable {P:Program}{nt:Nat}{Q:Exit->Act->World->Prop}{a:Act}{w:World}
end
variable {P:Program}{I:Envs}{C1:Ctx}{σ τ:St}{S:Nat->Prop}{a:Act}{w:World}
end
section
theorem Fn.of_new [Envs] {P:Program}{f:FuncId}{args:List AV}{r:AV} (G:wP P f) (O:∀x,x∈args->mV x=true)
  (h:∀(S:Nat->Prop) (w:World) (vs:Array Value),(∀b,S b->b<w.heap.size)->Env S w->vs.size=args.length->(∀j,j<args.length->RC S w (args.getD j .junk) (vs.getD j undef))->Calls P f vs w λe w'=>∃(v:Value) (D:Nat->Prop),e=.returned v∧aBM w w'∧(∀b,D b->w.heap.size<=b∧b<w'.heap.size)∧RC D w' r v) :
  Fn P f [] args r []:=by
 refine⟨G,λS w ρ κ vs F _ L H=>(h S w vs F.dom F.env L λj J=>(H j J).closed (O _ ?_)).mono ?_⟩
 .rw[Bc,Bf J];exact Am _
 .rintro e w' ⟨v,D,rfl,hg,hD,hv⟩
  have u:∀n,Hn ([]:List (Option Blk)) n=none:=by
   intro n;cases n<;>simp[Hn]
  exact⟨_,λb=>S b∨D b,λ_=>none,λ_=>0,rfl,⟨⟨λn b G=>(by rw[u] at G;cases G),λn m y M _ _ _=>(by rw[u] at M;cases M),λb G=>G.elim (λh=>BR (F.dom b h) hg.size) λh=>(hD b h).2,(hg.env F.dom F.env).mono (λ_ h=>.inl h) λ_ _=>rfl⟩,hg.size,λb G _=>hg.old b G,λ_ h=>.inl h,λb G=>G.elim .inl λh=>.inr (.inl (hD b h).1),λj x J=>(by simp at J),hg.out,λj U J=>(by simp at J)⟩,.clo (hv.mono (λ_ h=>.inr h) λ_ _=>rfl)⟩
end
section
section
variable [Envs]
variable {P:Program}{nt:Nat}{Q:Exit->Act->World->Prop}
end
section
variable [I:Envs]
variable {P:Program}{nt:Nat}{Q:Exit->Act->World->Prop}{a:Act}{w:World}
end
variable {P:Program}{nt:Nat}{Q:Exit->Act->World->Prop}{a:Act}{w:World}
variable {I:Envs}{C1:Ctx}{σ:St}{S:Nat->Prop}
end
section
section
variable [Envs]
variable {P:Program}
theorem aBM.alloc (w:World) (o:Obj):aBM w (w.alloc o):=
 ⟨by show w.heap.size<=(w.heap.push o).size;simp,λb u=>by show(w.heap.push o)[b]? = _;simp[Array.getElem?_push,Nat.ne_of_lt u],rfl,rfl⟩
end
end
section
section
variable [Envs]
variable {P:Program}
open Go.RowKit
end
end
section
variable {P:Program}{I:Envs}{C1:Ctx}{σ τ:St}{a:Act}{w:World}{S:Nat->Prop}
theorem aAi.of_own {S:Nat->Prop}{w:World}{x:Option Nat}{c k:Nat}{rows:List (List AV)}{v:Value} (H:Own S w x c k rows v) {ρ:Name->Option Nat}{κ:Name->Nat}{h:Name->Option Blk}{n:Name} (F:ρ n=x) (h2:κ n=c) (G:h n=some (.arr k rows false)):aAi ρ κ h n 0 rows.length v:=by
 intro J L M u;rw[G] at u;obtain⟨rfl,rfl,rfl⟩:k=J∧rows=L∧false=M:=by simpa using u
 have:=H.loc k rows false rfl;subst F;subst h2;exact this
end
section
variable {P:Program}
section
variable [Envs]
end
end
section
variable {P:Program}
section
variable [Envs]
end
end
section
variable {P:Program}
variable [Envs]
theorem Fn.shut2 {f:FuncId}{k:Nat}{rows:List (List AV)}{ys:List AV}{c:Value} (h:Fn P f [] ys (.tup [.loc (.b 0) 0 rows.length,.v c]) [some (.arr k rows false)]) (J:∀r,r∈rows->nV r=true) (V:∀y,y∈ys->mV y=true) :
  Fn P f [] ys (.tup [.sl k rows,.v c]) []:=by
 refine Fn.of_new h.1 V λS w vs Z he U G=>?_
 have u:∀n,Hn (([]:List Blk).map some) n=none:=by
  intro n;cases n<;>simp[Hn]
 refine(h.2 S w (λ_=>none) (λ_=>0) vs ⟨λn b F=>(by rw[u] at F;cases F),λn m y Y _ _ _=>(by rw[u] at Y;cases Y),Z,he⟩ (by simp) U λj L=>.clo (G j L)).mono ?_;rintro e w' ⟨v,S',ρ',κ',rfl,hp,hr⟩;obtain⟨us,rfl,O,H⟩:=aA3 hr;have F:=hp.hok.blk (.b 0) (.arr k rows false) rfl;have hl:=iE (show RV S' w' ρ' κ' (Hn [some (.arr k rows false)]) (.loc (.b 0) 0 rows.length) (us.getD 0 undef) from H 0 (by simp))
 have ho:Own S' w' (ρ' (.b 0)) (κ' (.b 0)) k rows (us.getD 0 undef):=⟨λk' l' z' M=>by
   obtain⟨rfl,rfl,rfl⟩:k=k'∧rows=l'∧false=z':=by simpa using M
   exact hl k rows false rfl,F,J⟩
 refine⟨_,λb=>ρ' (.b 0)=some b,rfl,⟨hp.size,λb F=>hp.old b F aD3,hp.out⟩,λb F=>⟨?_,hp.hok.lt (n:=.b 0) (by rfl) F⟩,.tup _ us O λj L=>?_⟩
 .rcases hp.mine 0 b (by rfl) F with h|h
  .exact h
  .exact absurd h aD3
 .match j,L with
  |0,_=>exact(ho.mono (S':=λ_=>False) (λ_ _ h=>h) λ_ _=>rfl).rc
  | 1,_ =>
   have:=dD (H 1 (by simp));show RC _ _ (.v c) (us.getD 1 undef)
   rw[this];exact .v _
theorem aMK {S:Nat->Prop}{w:World}{n:Nat}{x y:AV}{v:Value} (h:RC S w (.sl 1 (List.replicate n [x])) v) (M:∀u,RC S w x u->RC S w y u):RC S w (.sl 1 (List.replicate n [y])) v:=by
 generalize Z:List.replicate n [x]=L at h;cases h with
 | sl _ _ base cap z off ys hb hc ho hrr hk hcap =>
  subst Z;have e:(List.replicate n [x]).length=(List.replicate n [y]).length:=by simp
  have U:(List.replicate n [x]).length=n:=by simp
  have F:(List.replicate n [y]).length=n:=by simp
  rw[e];refine .sl 1 _ base cap z off ys (λJ=>hb (λh=>J ?_)) (λi j hi H=>hc i j (by rw[e];exact hi) H) (λi j hi H=>ho i j (by rw[e];exact hi) H) (λi j hi H=>?_) (λi hi=>?_) (by rw[←e];exact hcap)
  .cases n with
   |zero=>rfl
   |succ n=>simp[Ai] at h
  .obtain rfl:j=0:=by omega
   have G:i<n:=by rw[F] at hi;exact hi
   have O:=hrr i 0 (by rw[e];exact hi) (by omega);have V:((List.replicate n [x]).getD i []).getD 0 .junk=x:=by simp[G]
   have Y:((List.replicate n [y]).getD i []).getD 0 .junk=y:=by simp[G]
   rw[V] at O;rw[Y];exact M _ O
  .rw[F] at hi;simp[hi]
theorem Fn.asB {f:FuncId}{hin:List Blk}{ys:List AV}{r u:AV}{hout:List (Option Blk)} (h:Fn P f hin ys r hout) (F:mV r=true) (G:∀S w v,RC S w r v->RC S w u v):Fn P f hin ys u hout:=
 ⟨h.1,λS w ρ κ vs a b c d=>(h.2 S w ρ κ vs a b c d).mono λe w' ⟨v,S',ρ',κ',h1,h2,h3⟩=>⟨v,S',ρ',κ',h1,h2,.clo (G _ _ _ (h3.closed F))⟩⟩
theorem aA.ownL {f:FuncId}{ys:List AV}{L:List Name}{d:Option Nat}{σ:St}{K:St->Prop}{t:Tag K}{r:AV}{hout:List (Option Blk)} (u:Fn P f [] ys r hout) (F:iR (d.getD 0) 0 hout.length σ=true)
  (G:K ⟨put d (rn (phi [] (d.getD 0) hout.length) r) σ.s,xB σ.h [] (d.getD 0) hout true L⟩):aA P f [] ys L d σ [] K t:=
 ⟨r,hout,true,u,λh=>(by cases h),F,G⟩
end
end Go.Vs
