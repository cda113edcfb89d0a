/- A function may leave a block that it was handed dead: a row that it has appended to, or that it keeps for itself. -/
import Derived.Test.YtmiiohemehacjaaGreatDoorVtR
set_option linter.all false
set_option maxHeartbeats 8000000
namespace Go.Vs
variable [Envs]
variable {P:Program}{C:Ctx}{a:Act}{w:World}{S:Nat->Prop}{ρ:Name->Option Nat}{κ:Name->Nat}{h:Name->Option Blk}
def aB8 (h:Name->Option Blk) (E:List Name):List Name->Option (List (Option Blk)×List Name)
 | []=>some ([],[])
 | n::r=>match h n,aB8 h E r with
  |none,some (bs,L)=>some (none::bs,L)
  | some b,some (bs,L')=>match fU h E b with
   |some (b',L)=>if b'.fz then none else some (some b'::bs,L++L')
   |none=>none
  |_,none=>none
theorem aAw (h:Name->Option Blk) (E:List Name):∀{B:List Name}{bs:List (Option Blk)}{L:List Name},aB8 h E B=some (bs,L)->bs.length=B.length∧
  (∀(j:Nat) (n:Name),B[j]? = some n->(h n=none∧bs[j]? = some none)∨∃b u F,h n=some b∧fU h E b=some (u,F)∧bs[j]? = some (some u)∧u.fz=false∧∀m,m∈F->m∈L)∧
  ∀m,m∈L->∃(n:Name) (b u:Blk) (F:List Name),n∈B∧h n=some b∧fU h E b=some (u,F)∧m∈F
 | [],bs,L,hb=>by
  grind [aB8]
 | n::r,bs,L,hb=>by
  simp only[aB8] at hb;split at hb
  .rename_i G L2 J h2;simp only[Aj,AZ] at hb;obtain⟨rfl,rfl⟩:=hb;obtain⟨I,M,O⟩:=aAw h E h2
   all_goals grind
  .rename_i b G L2 J h2;split at hb
   .rename_i u L1 U;split at hb
    .cases hb
    .rename_i Y;simp only[Aj,AZ] at hb;obtain⟨rfl,rfl⟩:=hb;obtain⟨I,M,O⟩:=aAw h E h2;refine⟨by simp[I],λj m V=>?_,λm H=>?_⟩
     .cases j with
      | zero =>
       grind
      | succ j =>
       grind
     .rcases Be.1 H with H|H
      all_goals grind
   .cases hb
  .cases hb
theorem aEY (H:HOK S w ρ κ h) {B:List Name} (hq:B.Nodup) {x y:AV}{v:Value}{hout:List (Option Blk)}{L1 L2:List Name} (hx:RV S w ρ κ h x v)
  (hc:conv h 8 B false x=some (y,L1)) (h5:aB8 h B B=some (hout,L2)) :
  ∃ (S':Nat->Prop) (ρ':Name->Option Nat) (κ':Name->Nat),HOK S' w ρ' κ' (Hn hout)∧RV S' w ρ' κ' (Hn hout) y v∧(∀b,S b->S' b)∧
   (∀b,S' b->S b∨∃n,(h n).isSome∧ρ n=some b)∧(∀j z,((hout.getD j none).isSome)->ρ' (.b j)=some z->∃n,(h n).isSome∧ρ n=some z)∧
   ∀j n,B[j]? = some n->ρ' (.b j)=ρ n∧κ' (.b j)=κ n∧∀G,Hn hout (.b j)=some G->∃b,h n=some b∧b.same G:=by
 obtain⟨h6,he,h0⟩:=aAw _ _ h5
 let L:=L1++L2
 let S1:Nat->Prop:=λy=>S y∨∃n,n∈L∧ρ n=some y
 let ρ0:Name->Option Nat:=λm=>match m with|.b j=>(B[j]?).bind ρ|.t _ _=>none
 let κ0:Name->Nat:=λm=>match m with|.b j=>((B[j]?).map κ).getD 0|.t _ _=>0
 have U:∀y,S y->S1 y:=λy hy=>.inl hy;have hl:∀n,n∈L1->n∈L:=λn O=>BV _ O;have ho:∀n,n∈L2->n∈L:=λn O=>Df _ O
 have hE:∀j n,B[j]? = some n->ρ0 (.b j)=ρ n∧κ0 (.b j)=κ n∧∀G,Hn hout (.b j)=some G->∃b,h n=some b∧b.same G:=by
  intro j n M;refine⟨by simp[ρ0,M],by simp[κ0,M],λG J=>?_⟩;rcases he j n M with⟨_,Z⟩|⟨b,b2,Lj,I,u,g3,_,_⟩
  .simp[Hn,List.getD,Z] at J
  have:G=b2:=by
   grind [Hn]
  subst this;refine⟨b,I,?_⟩;cases b with
  | var c z =>
   simp only[fU] at u;cases F:dF (conv h 8 B false) c with
   |none=>rw[F] at u;cases u
   | some p =>
    rw[F] at u;simp only[Ba,Aj,AZ] at u;rw[←u.1];exact((gX F).1).symm
  | arr k l z =>
   grind [fU,Blk.same_refl]
 have hd:∀m,m∈L->∀y,ρ m=some y->S1 y:=λm F y hy=>.inr ⟨m,F,hy⟩;have Y:=vL H U (κ':=κ0) hE 8
 have hf:∀n,n∈L->n∉B∧(h n).isSome:=by
  intro n O;rcases Be.1 O with O|O
  .exact(Y false _ _ _ _ hc (λm F=>hd m (hl m F)) hx).2.2 n O
  .obtain⟨n',b,G,Lj,I,u,g3,g4⟩:=h0 n O;cases b with
   | arr k l z =>
    grind [fU]
   | var c z =>
    simp only[fU] at g3;cases F:dF (conv h 8 B false) c with
    |none=>rw[F] at g3;cases g3
    | some p =>
     obtain⟨c',Lp⟩:=p;rw[F] at g3;simp only[Ba,Aj,AZ] at g3;obtain⟨_,rfl⟩:=g3;obtain⟨x,cs,T,fr,q1,q2,q3,q4,_,q5,q6,q7⟩:=H.blk n' _ u;obtain⟨i,hi⟩:=BM.1 I;rcases he i n' hi with⟨p0,_⟩|⟨b1,b2,Lb,p1,p2,p3,p4,p5⟩
     .rw[u] at p0;cases p0
     rw[u] at p1;obtain rfl:=Av p1;simp only[fU,F,Ba,Aj,AZ] at p2;obtain⟨_,rfl⟩:=p2;exact aD4 H U (κ':=κ0) hE F (λm F=>hd m (ho m (p5 m F))) (λj M=>(q7 j M).2) n g4
 have hu:∀n b,n∈B->h n=some b->b.fz=false->∀x,ρ n=some x->¬S1 x:=by
  rintro n b O hb V x hx (hs|⟨m,F,hmx⟩)
  .have:=H.blk n b hb;cases b with
   | var c z =>
    obtain⟨y,_,_,_,I,_,_,u,_⟩:=this;obtain rfl:=Av (hx.symm.trans I);exact u V hs
   | arr k l z =>
    obtain⟨_,⟨I,_⟩|⟨y,_,_,_,I,_,_,u,_⟩⟩:=this
    .rw[hx] at I;cases I
    .obtain rfl:=Av (hx.symm.trans I);exact u V hs
  all_goals grind [HOK]
 have ha:∀j G,Hn hout (.b j)=some G->∃n b Lj,B[j]? = some n∧h n=some b∧fU h B b=some (G,Lj)∧(∀m,m∈Lj->m∈L2)∧G.fz=false:=by
  intro j G J
  have M:j<B.length:=by
   grind [Hn]
  rcases he j B[j] (by simp[M]) with⟨_,Z⟩|⟨b,b2,Lj,I,u,g3,g4,g5⟩
  .simp[Hn,List.getD,Z] at J
  have:G=b2:=by
   grind [Hn]
  subst this;exact⟨B[j],b,Lj,by simp[M],I,u,g5,g4⟩
 have hr:HOK S1 w ρ0 κ0 (Hn hout):=by
  refine⟨λm G J=>?_,λm m' x h1 h2 h3 h4=>?_,?_,H.env.mono U λ_ _=>rfl⟩
  .cases m with
   |t=>simp[Hn] at J
   | b j =>
    obtain⟨n,b,Lj,Z,I,u,g5,g4⟩:=ha j G J;obtain⟨e1,e2,_⟩:=hE j n Z;have hb:=H.blk n b I;have hp:=hu n b (BU Z) I;cases b with
    | var c z =>
     simp only[fU] at u;cases F:dF (conv h 8 B false) c with
     |none=>rw[F] at u;cases u
     | some p =>
      obtain⟨c',Lp⟩:=p;rw[F] at u;simp only[Ba,Aj,AZ] at u;obtain⟨rfl,rfl⟩:=u;obtain⟨x,cs,T,fr,q1,q2,q3,q4,hg,q5,q6,q7⟩:=hb;obtain⟨l1,l2⟩:=gX F;refine⟨x,cs,T,fr,by rw[e1];exact q1,q2,q3,λV=>hp V x q1,λV=>.inl (hg V),by rw[e2];exact q5,by omega,λi hi=>⟨(q7 i (by omega)).1,?_⟩⟩;obtain⟨Li,l3,l4⟩:=l2 i (by omega);exact(Y false _ _ _ _ l3 (λm F=>hd m (ho m (g5 m (l4 m F)))) (q7 i (by omega)).2).1 rfl
    | arr k l z =>
     simp only[fU,Aj,AZ] at u;obtain⟨rfl,rfl⟩:=u;obtain⟨q0,⟨q1,q2⟩|⟨x,cs,T,fr,q1,q2,q3,q4,hg,q5,q6,q7⟩⟩:=hb
     .exact⟨q0,.inl ⟨by rw[e1];exact q1,q2⟩⟩
     .exact⟨q0,.inr ⟨x,cs,T,fr,by rw[e1];exact q1,q2,q3,λV=>hp V x q1,λV=>.inl (hg V),by rw[e2];exact q5,q6,λi j hi M=>⟨(q7 i j hi M).1,(q7 i j hi M).2.mono U λ_ _=>rfl⟩⟩⟩
  .cases m with
   |t=>simp[Hn] at h1
   | b j =>
    cases m' with
    |t=>simp[Hn] at h2
    | b j' =>
     obtain⟨b1,hv⟩:=AQ.1 h1;obtain⟨b2,hw⟩:=AQ.1 h2;obtain⟨n,b,_,Z,I,_⟩:=ha j b1 hv;obtain⟨n',G,_,hk,ht,_⟩:=ha j' b2 hw;rw[(hE j n Z).1] at h3;rw[(hE j' n' hk).1] at h4;obtain rfl:=H.inj n n' x (by simp[I]) (by simp[ht]) h3 h4;congr 1;have e1:=pU hq Z;have e2:=pU hq hk;rw[e1] at e2;exact Av e2
  .rintro y (hy|⟨n,O,hy⟩)
   .exact H.dom y hy
   .exact H.lt (hf n O).2 hy
 refine⟨S1,ρ0,κ0,hr,(Y false _ _ _ _ hc (λm F=>hd m (hl m F)) hx).1 rfl,U,?_,?_,hE⟩
 .grind
 .intro j z M V;obtain⟨G,J⟩:=AQ.1 M;obtain⟨n,b,_,Z,I,_⟩:=ha j G J
  all_goals grind
def aDX (P:Program) (rs:List ResultVar) (B:List Name) (r:AV) (hout:List (Option Blk)) (σ:St):Prop:=
 aCN P σ (λxs=>∃L1 L2,conv (aB σ.h) 8 B false (aCX xs)=some (r,L1)∧aB8 (aB σ.h) B B=some (hout,L2)) rs
theorem Fn.introD {u:Nat->Array Oper->Option (List Nat)}{f:FuncId}{fn:Func} (U:lL P u) {F:Code}{ac:aF}{hin:List Blk}{args:List AV}{r:AV}{hout:List (Option Blk)} (B:List Name)
  (hf:P.funcs[f]? = some fn) (G:fn.body=some F) (J:fn.name≠"runtime.NumGoroutine") (hc:bM P fn.ntmps u F=some ac.bare) (he:args.length<=fn.ntmps) (ha:B.Nodup)
  (hB:∀j,j<hin.length->B[j]? = some (.b j))
  (hw:∀C:Ctx,C.nt=fn.ntmps->wpc P C u ac (aDX P fn.results.toList B r hout) (λe σ=>match e with|.ret=>aDX P fn.results.toList B r hout σ|.exit _=>False) ⟨ini 0 args,xW 0 hin⟩) :
  Fn P f hin args r hout:=by
 refine⟨⟨fn,F,hf,G,J⟩,?_⟩;intro S w ρ κ vs hd _ hk I
 let C:Ctx:={nt:=fn.ntmps,w0:=w,S0:=S,Mut:=sO ρ hin,ρ0:=λj=>ρ (.b j),κ0:=λj=>κ (.b j),h0:=λj=>hin[j]?}
 have hC:=hw C rfl;refine calls_of_wp hf G ?_
 have H:∀a w',dP C (aDX P fn.results.toList B r hout) a w'->a.defers=[]∧∃v,(results fn a.tmps).run P w'=.ok v w'∧
   ∃v2 S' ρ' κ',Ending.returned v=.returned v2∧Post S w ρ κ hin S' w' ρ' κ' hout∧RV S' w' ρ' κ' (Hn hout) r v2:=by
  rintro a w' ⟨σ,S1,ρ1,κ1,hK,hok1⟩;refine⟨hok1.defers,?_⟩;obtain⟨x,v,⟨L1,L2,L,h2⟩,h3,h4⟩:=aCm hok1 (K:=λx=>∃L1 L2,conv (aB σ.h) 8 B false x=some (r,L1)∧aB8 (aB σ.h) B B=some (hout,L2)) hK;refine⟨v,h4,v,?_⟩;obtain⟨S',ρ',κ',g1,g2,g3,g4,g5,g6⟩:=aEY hok1.hok ha h3 L h2;refine⟨S',ρ',κ',rfl,⟨g1,hok1.size,λb G hm=>hok1.old b G hm,λb G=>g3 b (hok1.S0 b G),λb G=>?_,λj z M hz=>?_,hok1.out,λj b' M Y=>?_⟩,g2⟩
  .rcases g4 b G with h|⟨n,Z,h⟩
   .exact hok1.Snew b h
   .exact .inr (hok1.mine n b Z h)
  .obtain⟨n,Z,h⟩:=g5 j z M hz;exact hok1.mine n z Z h
  .obtain⟨e1,e2,e3⟩:=g6 j (.b j) (hB j M);obtain⟨b,h5,h6⟩:=e3 b' Y;obtain⟨e4,e5,b0,h7,h8⟩:=hok1.keep j b h5
   all_goals grind [Blk.same_trans]
 refine uE U ac _ _ _ hC F _ _ w S ρ κ hc (λa w' V=>H a w' V) (λi a w' ⟨_,_,_,_,h,_⟩=>h.elim) (λa w' V=>H a w' V) ?_
 have O:∀n,((Hn (hin.map some)) n).isSome->∃j,j<hin.length∧n=.b j:=by
  grind [Hn,Name]
 refine⟨?_,rfl,λt=>?_,by simp only[St.f,fI];exact hd,AL _,λ_ _ _=>rfl,λn x L h2=>?_,λ_ h=>h,λb G=>.inl G,⟨rfl,rfl⟩,λj b G=>?_⟩
 .simp only[C,Array.size_append,Array.size_replicate];omega
 .simp only[St.f,aAZ,BX,Ci,BF,Nat.sub_zero,fI];split
  .rename_i ht
   have e:(vs++Array.replicate (fn.ntmps-vs.size) undef).getD t undef=vs.getD t undef:=by
    have L:t<vs.size:=by omega
    simp[CG,L]
   rw[e];exact I t ht
  .exact .junk _
 .simp only[St.f,fI] at L;obtain⟨j,M,rfl⟩:=O n L;exact .inr ⟨j,M,h2⟩
 .simp only[St.f,fI] at G;refine⟨rfl,rfl,b,?_,b.same_refl⟩
  all_goals grind [Hn]
theorem l8.fnD {f:FuncId}{fn:Func}{ac:aF} (h:l8 P f fn ac) (V:P.follows .mixedOrders=true) {hin:List Blk}{args:List AV}{r:AV} (nt:Nat) (rs:List ResultVar) (B:List Name) (hout:List (Option Blk)) (G:fn.ntmps=nt) (H:fn.results.toList=rs)
  (u:Nat.ble args.length nt=true) (F:nodupB B=true) (M:∀j,j<hin.length->B[j]? = some (.b j))
  (Y:∀C:Ctx,wpc P C (fK P) ac (aDX P rs B r hout) (λe σ=>match e with|.ret=>aDX P rs B r hout σ|.exit _=>False) ⟨ini 0 args,xW 0 hin⟩) :
  Fn P f hin args r hout:=by
 subst G;subst H;obtain⟨J,h2,L⟩:=h;obtain⟨I,O,U⟩:=Ca.1 h2;exact Fn.introD (qA V) B J O (by simpa using L) U (Cq u) (pQ F) M λC _=>Y C
attribute [go_sem] aDX aB8
end Go.Vs
