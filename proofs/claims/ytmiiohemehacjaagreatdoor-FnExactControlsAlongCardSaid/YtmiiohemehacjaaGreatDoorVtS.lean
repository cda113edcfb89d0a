/- A function may leave a block that it was handed dead: a row that it has appended to, or that it keeps for itself. -/
import Derived.Test.YtmiiohemehacjaaGreatDoorVtR
set_option linter.all false
set_option maxHeartbeats 8000000
namespace Go.Vs
variable [Envs]
variable {P:Program}{C:Ctx}{a:Act}{w:World}{S:Nat->Prop}{ρ:Name->Option Nat}{κ:Name->Nat}{h:Name->Option Blk}
def aBK (h:Name->Option Blk) (E:List Name):List Name->Option (List (Option Blk)×List Name)
 | []=>some ([],[])
 | n::r=>match h n,aBK h E r with
  |none,some (bs,L)=>some (none::bs,L)
  | some b,some (bs,L')=>match eX h E b with
   |some (b',L)=>if b'.fz then none else some (some b'::bs,L++L')
   |none=>none
  |_,none=>none
theorem zZ (h:Name->Option Blk) (E:List Name):∀{B:List Name}{bs:List (Option Blk)}{L:List Name},aBK h E B=some (bs,L)->bs.length=B.length∧
  (∀(j:Nat) (n:Name),B[j]? = some n->(h n=none∧bs[j]? = some none)∨∃b F H,h n=some b∧eX h E b=some (F,H)∧bs[j]? = some (some F)∧F.fz=false∧∀m,m∈H->m∈L)∧
  ∀m,m∈L->∃(n:Name) (b F:Blk) (H:List Name),n∈B∧h n=some b∧eX h E b=some (F,H)∧m∈H
 | [],bs,L,hb=>by
  grind [aBK]
 | n::r,bs,L,hb=>by
  simp only[aBK] at hb;split at hb
  .rename_i I U Y h2;simp only[Option.some.injEq,Prod.mk.injEq] at hb;obtain⟨rfl,rfl⟩:=hb;obtain⟨O,Z,h5⟩:=zZ h E h2
   all_goals grind
  .rename_i b I U Y h2;split at hb
   .rename_i F L1 hc;split at hb
    .cases hb
    .rename_i hz;simp only[Option.some.injEq,Prod.mk.injEq] at hb;obtain⟨rfl,rfl⟩:=hb;obtain⟨O,Z,h5⟩:=zZ h E h2;refine⟨by simp[O],λj m hj=>?_,λm J=>?_⟩
     .cases j with
      | zero =>
       grind
      | succ j =>
       grind
     .rcases List.mem_append.1 J with J|J
      all_goals grind
   .cases hb
  .cases hb
theorem aES (O:HOK S w ρ κ h) {B:List Name} (hr:B.Nodup) {x y:AV}{v:Value}{F:List (Option Blk)}{L1 L2:List Name} (hx:RV S w ρ κ h x v)
  (hc:conv h 8 B false x=some (y,L1)) (h6:aBK h B B=some (F,L2)) :
  ∃ (S':Nat->Prop) (ρ':Name->Option Nat) (κ':Name->Nat),HOK S' w ρ' κ' (Hn F)∧RV S' w ρ' κ' (Hn F) y v∧(∀b,S b->S' b)∧
   (∀b,S' b->S b∨∃n,(h n).isSome∧ρ n=some b)∧(∀j z,((F.getD j none).isSome)->ρ' (.b j)=some z->∃n,(h n).isSome∧ρ n=some z)∧
   ∀j n,B[j]? = some n->ρ' (.b j)=ρ n∧κ' (.b j)=κ n∧∀J,Hn F (.b j)=some J->∃b,h n=some b∧b.same J:=by
 obtain⟨h7,hg,h5⟩:=zZ _ _ h6
 let L:=L1++L2
 let S1:Nat->Prop:=λy=>S y∨∃n,n∈L∧ρ n=some y
 let ρ0:Name->Option Nat:=λm=>match m with|.b j=>(B[j]?).bind ρ|.t _ _=>none
 let κ0:Name->Nat:=λm=>match m with|.b j=>((B[j]?).map κ).getD 0|.t _ _=>0
 have ha:∀y,S y->S1 y:=λy hy=>.inl hy;have ho:∀n,n∈L1->n∈L:=λn hn=>List.mem_append_left _ hn;have hp:∀n,n∈L2->n∈L:=λn hn=>List.mem_append_right _ hn
 have hE:∀j n,B[j]? = some n->ρ0 (.b j)=ρ n∧κ0 (.b j)=κ n∧∀J,Hn F (.b j)=some J->∃b,h n=some b∧b.same J:=by
  intro j n Z;refine⟨by simp[ρ0,Z],by simp[κ0,Z],λJ Y=>?_⟩;rcases hg j n Z with⟨_,g0⟩|⟨b,b2,Lj,U,H,g3,_,_⟩
  .simp[Hn,List.getD,g0] at Y
  have:J=b2:=by
   grind [Hn]
  subst this;refine⟨b,U,?_⟩;cases b with
  | var c z =>
   simp only[eX] at H;cases I:eG (conv h 8 B false) c with
   |none=>rw[I] at H;cases H
   | some p =>
    rw[I] at H;simp only[Option.map_some,Option.some.injEq,Prod.mk.injEq] at H;rw[←H.1];exact((fU I).1).symm
  | arr k l z =>
   grind [eX,Blk.same_refl]
 have hf:∀m,m∈L->∀y,ρ m=some y->S1 y:=λm I y hy=>.inr ⟨m,I,hy⟩;have hd:=oF O ha (κ':=κ0) hE 8
 have hh:∀n,n∈L->n∉B∧(h n).isSome:=by
  intro n hn;rcases List.mem_append.1 hn with hn|hn
  .exact(hd false _ _ _ _ hc (λm I=>hf m (ho m I)) hx).2.2 n hn
  .obtain⟨n',b,J,Lj,U,H,g3,g4⟩:=h5 n hn;cases b with
   | arr k l z =>
    grind [eX]
   | var c z =>
    simp only[eX] at g3;cases I:eG (conv h 8 B false) c with
    |none=>rw[I] at g3;cases g3
    | some p =>
     obtain⟨c',Lp⟩:=p;rw[I] at g3;simp only[Option.map_some,Option.some.injEq,Prod.mk.injEq] at g3;obtain⟨_,rfl⟩:=g3;obtain⟨x,cs,T,fr,q1,q2,q3,q4,_,q5,q6,q7⟩:=O.blk n' _ H;obtain⟨i,hi⟩:=List.mem_iff_getElem?.1 U;rcases hg i n' hi with⟨p0,_⟩|⟨b1,b2,Lb,p1,p2,p3,p4,p5⟩
     .rw[H] at p0;cases p0
     rw[H] at p1;obtain rfl:=Option.some.inj p1;simp only[eX,I,Option.map_some,Option.some.injEq,Prod.mk.injEq] at p2;obtain⟨_,rfl⟩:=p2;exact aDR O ha (κ':=κ0) hE I (λm I=>hf m (hp m (p5 m I))) (λj Z=>(q7 j Z).2) n g4
 have hv:∀n b,n∈B->h n=some b->b.fz=false->∀x,ρ n=some x->¬S1 x:=by
  rintro n b hn hb hz x hx (hs|⟨m,I,hmx⟩)
  .have:=O.blk n b hb;cases b with
   | var c z =>
    obtain⟨y,_,_,_,U,_,_,H,_⟩:=this;obtain rfl:=Option.some.inj (hx.symm.trans U);exact H hz hs
   | arr k l z =>
    obtain⟨_,⟨U,_⟩|⟨y,_,_,_,U,_,_,H,_⟩⟩:=this
    .rw[hx] at U;cases U
    .obtain rfl:=Option.some.inj (hx.symm.trans U);exact H hz hs
  all_goals grind [HOK]
 have he:∀j J,Hn F (.b j)=some J->∃n b Lj,B[j]? = some n∧h n=some b∧eX h B b=some (J,Lj)∧(∀m,m∈Lj->m∈L2)∧J.fz=false:=by
  intro j J Y
  have Z:j<B.length:=by
   grind [Hn]
  rcases hg j B[j] (by simp[Z]) with⟨_,g0⟩|⟨b,b2,Lj,U,H,g3,g4,g5⟩
  .simp[Hn,List.getD,g0] at Y
  have:J=b2:=by
   grind [Hn]
  subst this;exact⟨B[j],b,Lj,by simp[Z],U,H,g5,g4⟩
 have ht:HOK S1 w ρ0 κ0 (Hn F):=by
  refine⟨λm J Y=>?_,λm m' x h1 h2 h3 h4=>?_,?_,O.env.mono ha λ_ _=>rfl⟩
  .cases m with
   |t=>simp[Hn] at Y
   | b j =>
    obtain⟨n,b,Lj,g0,U,H,g5,g4⟩:=he j J Y;obtain⟨e1,e2,_⟩:=hE j n g0;have hb:=O.blk n b U;have hq:=hv n b (List.mem_of_getElem? g0) U;cases b with
    | var c z =>
     simp only[eX] at H;cases I:eG (conv h 8 B false) c with
     |none=>rw[I] at H;cases H
     | some p =>
      obtain⟨c',Lp⟩:=p;rw[I] at H;simp only[Option.map_some,Option.some.injEq,Prod.mk.injEq] at H;obtain⟨rfl,rfl⟩:=H;obtain⟨x,cs,T,fr,q1,q2,q3,q4,hk,q5,q6,q7⟩:=hb;obtain⟨l1,l2⟩:=fU I;refine⟨x,cs,T,fr,by rw[e1];exact q1,q2,q3,λhz=>hq hz x q1,λhz=>.inl (hk hz),by rw[e2];exact q5,by omega,λi hi=>⟨(q7 i (by omega)).1,?_⟩⟩;obtain⟨Li,l3,l4⟩:=l2 i (by omega);exact(hd false _ _ _ _ l3 (λm I=>hf m (hp m (g5 m (l4 m I)))) (q7 i (by omega)).2).1 rfl
    | arr k l z =>
     simp only[eX,Option.some.injEq,Prod.mk.injEq] at H;obtain⟨rfl,rfl⟩:=H;obtain⟨q0,⟨q1,q2⟩|⟨x,cs,T,fr,q1,q2,q3,q4,hk,q5,q6,q7⟩⟩:=hb
     .exact⟨q0,.inl ⟨by rw[e1];exact q1,q2⟩⟩
     .exact⟨q0,.inr ⟨x,cs,T,fr,by rw[e1];exact q1,q2,q3,λhz=>hq hz x q1,λhz=>.inl (hk hz),by rw[e2];exact q5,q6,λi j hi Z=>⟨(q7 i j hi Z).1,(q7 i j hi Z).2.mono ha λ_ _=>rfl⟩⟩⟩
  .cases m with
   |t=>simp[Hn] at h1
   | b j =>
    cases m' with
    |t=>simp[Hn] at h2
    | b j' =>
     obtain⟨b1,hw⟩:=Option.isSome_iff_exists.1 h1;obtain⟨b2,h0⟩:=Option.isSome_iff_exists.1 h2;obtain⟨n,b,_,g0,U,_⟩:=he j b1 hw;obtain⟨n',J,_,hl,hu,_⟩:=he j' b2 h0;rw[(hE j n g0).1] at h3;rw[(hE j' n' hl).1] at h4;obtain rfl:=O.inj n n' x (by simp[U]) (by simp[hu]) h3 h4;congr 1;have e1:=pF hr g0;have e2:=pF hr hl;rw[e1] at e2;exact Option.some.inj e2
  .rintro y (hy|⟨n,hn,hy⟩)
   .exact O.dom y hy
   .exact O.lt (hh n hn).2 hy
 refine⟨S1,ρ0,κ0,ht,(hd false _ _ _ _ hc (λm I=>hf m (ho m I)) hx).1 rfl,ha,?_,?_,hE⟩
 .grind
 .intro j z Z hz;obtain⟨J,Y⟩:=Option.isSome_iff_exists.1 Z;obtain⟨n,b,_,g0,U,_⟩:=he j J Y
  all_goals grind
def aDK (P:Program) (rs:List ResultVar) (B:List Name) (r:AV) (hout:List (Option Blk)) (σ:St):Prop:=
 uE P σ (λxs=>∃L1 L2,conv (aB σ.h) 8 B false (uZ xs)=some (r,L1)∧aBK (aB σ.h) B B=some (hout,L2)) rs
theorem Fn.introD {H:Nat->Array Oper->Option (List Nat)}{f:FuncId}{fn:Func} (hd:iF P H) {I:Code}{ac:aF}{hin:List Blk}{args:List AV}{r:AV}{F:List (Option Blk)} (B:List Name)
  (hf:P.funcs[f]? = some fn) (J:fn.body=some I) (U:fn.name≠"runtime.NumGoroutine") (hc:bE P fn.ntmps H I=some ac.bare) (hl:args.length<=fn.ntmps) (hh:B.Nodup)
  (hB:∀j,j<hin.length->B[j]? = some (.b j))
  (hw:∀C:Ctx,C.nt=fn.ntmps->wpc P C H ac (aDK P fn.results.toList B r F) (λe σ=>match e with|.ret=>aDK P fn.results.toList B r F σ|.exit _=>False) ⟨ini 0 args,aBe 0 hin⟩) :
  Fn P f hin args r F:=by
 refine⟨⟨fn,I,hf,J,U⟩,?_⟩;intro S w ρ κ vs hk _ ho O
 let C:Ctx:={nt:=fn.ntmps,w0:=w,S0:=S,Mut:=aAX ρ hin,ρ0:=λj=>ρ (.b j),κ0:=λj=>κ (.b j),h0:=λj=>hin[j]?}
 have hC:=hw C rfl;refine calls_of_wp hf J ?_
 have L:∀a w',bV C (aDK P fn.results.toList B r F) a w'->a.defers=[]∧∃v,(results fn a.tmps).run P w'=.ok v w'∧
   ∃v2 S' ρ' κ',Ending.returned v=.returned v2∧Post S w ρ κ hin S' w' ρ' κ' F∧RV S' w' ρ' κ' (Hn F) r v2:=by
  rintro a w' ⟨σ,S1,ρ1,κ1,hK,hok1⟩;refine⟨hok1.defers,?_⟩;obtain⟨x,v,⟨L1,L2,Y,h2⟩,h3,h4⟩:=tL hok1 (K:=λx=>∃L1 L2,conv (aB σ.h) 8 B false x=some (r,L1)∧aBK (aB σ.h) B B=some (F,L2)) hK;refine⟨v,h4,v,?_⟩;obtain⟨S',ρ',κ',g1,g2,g3,g4,g5,g6⟩:=aES hok1.hok hh h3 Y h2;refine⟨S',ρ',κ',rfl,⟨g1,hok1.size,λb J hm=>hok1.old b J hm,λb J=>g3 b (hok1.S0 b J),λb J=>?_,λj z Z hz=>?_,hok1.out,λj b' Z he=>?_⟩,g2⟩
  .rcases g4 b J with h|⟨n,hn,h⟩
   .exact hok1.Snew b h
   .exact .inr (hok1.mine n b hn h)
  .obtain⟨n,hn,h⟩:=g5 j z Z hz;exact hok1.mine n z hn h
  .obtain⟨e1,e2,e3⟩:=g6 j (.b j) (hB j Z);obtain⟨b,h5,h6⟩:=e3 b' he;obtain⟨e4,e5,b0,h7,h8⟩:=hok1.keep j b h5
   all_goals grind [Blk.same_trans]
 refine uK hd ac _ _ _ hC I _ _ w S ρ κ hc (λa w' hg=>L a w' hg) (λi a w' ⟨_,_,_,_,h,_⟩=>h.elim) (λa w' hg=>L a w' hg) ?_
 have ha:∀n,((Hn (hin.map some)) n).isSome->∃j,j<hin.length∧n=.b j:=by
  grind [Hn,Name]
 refine⟨?_,rfl,λt=>?_,by simp only[St.f,kC];exact hk,Nat.le_refl _,λ_ _ _=>rfl,λn x Y h2=>?_,λ_ h=>h,λb J=>.inl J,⟨rfl,rfl⟩,λj b J=>?_⟩
 .simp only[C,Array.size_append,Array.size_replicate];omega
 .simp only[St.f,aAE,Nat.zero_le,true_and,Nat.zero_add,Nat.sub_zero,kC];split
  .rename_i ht
   have e:(vs++Array.replicate (fn.ntmps-vs.size) undef).getD t undef=vs.getD t undef:=by
    have Y:t<vs.size:=by omega
    simp[Array.getElem?_append,Y]
   rw[e];exact O t ht
  .exact .junk _
 .simp only[St.f,kC] at Y;obtain⟨j,Z,rfl⟩:=ha n Y;exact .inr ⟨j,Z,h2⟩
 .simp only[St.f,kC] at J;refine⟨rfl,rfl,b,?_,b.same_refl⟩
  all_goals grind [Hn]
theorem bW.fnD {f:FuncId}{fn:Func}{ac:aF} (h:bW P f fn ac) (hm:P.follows .mixedOrders=true) {hin:List Blk}{args:List AV}{r:AV} (nt:Nat) (O:List ResultVar) (B:List Name) (F:List (Option Blk)) (J:fn.ntmps=nt) (L:fn.results.toList=O)
  (H:Nat.ble args.length nt=true) (I:nodupB B=true) (hB:∀j,j<hin.length->B[j]? = some (.b j))
  (hw:∀C:Ctx,wpc P C (bG P) ac (aDK P O B r F) (λe σ=>match e with|.ret=>aDK P O B r F σ|.exit _=>False) ⟨ini 0 args,aBe 0 hin⟩) :
  Fn P f hin args r F:=by
 subst J;subst L;obtain⟨Y,h2,Z⟩:=h;obtain⟨U,hb,hc⟩:=Option.bind_eq_some_iff.1 h2;exact Fn.introD (bZ hm) B Y hb (by simpa using Z) hc (Nat.le_of_ble_eq_true H) (tO I) hB λC _=>hw C
attribute [go_sem] aDK aBK
end Go.Vs
