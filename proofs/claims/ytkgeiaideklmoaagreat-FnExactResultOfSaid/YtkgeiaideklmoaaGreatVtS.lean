/- A function may leave a block that it was handed dead: a row that it has appended to, or that it keeps for itself. -/
import Derived.Test.YtkgeiaideklmoaaGreatVtR
set_option linter.all false
set_option maxHeartbeats 8000000
namespace Go.Vs
variable [Envs]
variable {P:Program}{C:Ctx}{a:Act}{w:World}{S:Nat→Prop}{ρ:Name→Option Nat}{κ:Name→Nat}{h:Name→Option Blk}
def aA9 (h:Name→Option Blk) (E:List Name):List Name→Option (List (Option Blk)×List Name)
 | []=>some ([],[])
 | n::r=>match h n,aA9 h E r with
  |none,some (bs,L)=>some (none::bs,L)
  | some b,some (bs,L')=>match eU h E b with
   |some (b',L)=>if b'.fz then none else some (some b'::bs,L++L')
   |none=>none
  |_,none=>none
theorem yV (h:Name→Option Blk) (E:List Name):∀{B:List Name}{bs:List (Option Blk)}{L:List Name},aA9 h E B=some (bs,L)→bs.length=B.length∧
  (∀(j:Nat) (n:Name),B[j]? = some n→(h n=none∧bs[j]? = some none)∨∃b H F,h n=some b∧eU h E b=some (H,F)∧bs[j]? = some (some H)∧H.fz=false∧∀m,m∈F→m∈L)∧
  ∀m,m∈L→∃(n:Name) (b H:Blk) (F:List Name),n∈B∧h n=some b∧eU h E b=some (H,F)∧m∈F
 | [],bs,L,hb=>by
  simp only[aA9,Option.some.injEq,Prod.mk.injEq] at hb;obtain⟨rfl,rfl⟩:=hb;exact⟨rfl,by simp,by simp⟩
 | n::r,bs,L,hb=>by
  simp only[aA9] at hb;split at hb
  ·rename_i ha L2 h1 h2;simp only[Option.some.injEq,Prod.mk.injEq] at hb;obtain⟨rfl,rfl⟩:=hb;obtain⟨h3,h4,h5⟩:=yV h E h2;refine⟨by simp[h3],fun j m I=>?_,fun m G=>?_⟩
   ·cases j with
    | zero =>
     simp only[List.getElem?_cons_zero,Option.some.injEq] at I;subst I;exact .inl ⟨h1,by simp⟩
    |succ j=>simpa using h4 j m (by simpa using I)
   ·obtain⟨n',b1,J,F,M,O,U,Y⟩:=h5 m G;exact⟨n',b1,J,F,List.mem_cons_of_mem _ M,O,U,Y⟩
  ·rename_i b ha L2 h1 h2;split at hb
   ·rename_i H L1 hc;split at hb
    ·cases hb
    ·rename_i hz;simp only[Option.some.injEq,Prod.mk.injEq] at hb;obtain⟨rfl,rfl⟩:=hb;obtain⟨h3,h4,h5⟩:=yV h E h2;refine⟨by simp[h3],fun j m I=>?_,fun m G=>?_⟩
     ·cases j with
      | zero =>
       simp only[List.getElem?_cons_zero,Option.some.injEq] at I;subst I;exact .inr ⟨b,H,L1,h1,hc,by simp,by simpa using hz,fun m G=>List.mem_append_left _ G⟩
      | succ j =>
       rcases h4 j m (by simpa using I) with g|⟨b,J,F,M,O,U,Y,g5⟩
       ·exact .inl (by simpa using g)
       ·exact .inr ⟨b,J,F,M,O,by simpa using U,Y,fun m G=>List.mem_append_right _ (g5 m G)⟩
     ·rcases List.mem_append.1 G with G|G
      ·exact⟨n,b,H,L1,by simp,h1,hc,G⟩
      ·obtain⟨n',b1,J,F,M,O,U,Y⟩:=h5 m G;exact⟨n',b1,J,F,List.mem_cons_of_mem _ M,O,U,Y⟩
   ·cases hb
  ·cases hb
theorem aDT (J:HOK S w ρ κ h) {B:List Name} (hr:B.Nodup) {x y:AV}{v:Value}{F:List (Option Blk)}{L1 L2:List Name} (hx:RV S w ρ κ h x v)
  (hc:conv h 8 B false x=some (y,L1)) (h7:aA9 h B B=some (F,L2)) :
  ∃ (S':Nat→Prop) (ρ':Name→Option Nat) (κ':Name→Nat),HOK S' w ρ' κ' (Hn F)∧RV S' w ρ' κ' (Hn F) y v∧(∀b,S b→S' b)∧
   (∀b,S' b→S b∨∃n,(h n).isSome∧ρ n=some b)∧(∀j z,((F.getD j none).isSome)→ρ' (.b j)=some z→∃n,(h n).isSome∧ρ n=some z)∧
   ∀j n,B[j]? = some n→ρ' (.b j)=ρ n∧κ' (.b j)=κ n∧∀M,Hn F (.b j)=some M→∃b,h n=some b∧b.same M:=by
 obtain⟨h5,hg,h6⟩:=yV _ _ h7
 let L:=L1++L2
 let S1:Nat→Prop:=fun y=>S y∨∃n,n∈L∧ρ n=some y
 let ρ0:Name→Option Nat:=fun m=>match m with|.b j=>(B[j]?).bind ρ|.t _ _=>none
 let κ0:Name→Nat:=fun m=>match m with|.b j=>((B[j]?).map κ).getD 0|.t _ _=>0
 have ha:∀y,S y→S1 y:=fun y hy=>.inl hy;have ho:∀n,n∈L1→n∈L:=fun n Y=>List.mem_append_left _ Y;have hp:∀n,n∈L2→n∈L:=fun n Y=>List.mem_append_right _ Y
 have hE:∀j n,B[j]? = some n→ρ0 (.b j)=ρ n∧κ0 (.b j)=κ n∧∀M,Hn F (.b j)=some M→∃b,h n=some b∧b.same M:=by
  intro j n hj;refine⟨by simp[ρ0,hj],by simp[κ0,hj],fun M H=>?_⟩;rcases hg j n hj with⟨_,g0⟩|⟨b,b2,Lj,O,G,g3,_,_⟩
  ·simp[Hn,List.getD,g0] at H
  have:M=b2:=by
   simp only[Hn,List.getD,g3,Option.getD_some,Option.some.injEq] at H;exact H.symm
  subst this;refine⟨b,O,?_⟩;cases b with
  | var c z =>
   simp only[eU] at G;cases I:eO (conv h 8 B false) c with
   |none=>rw[I] at G;cases G
   | some p =>
    rw[I] at G;simp only[Option.map_some,Option.some.injEq,Prod.mk.injEq] at G;rw[←G.1];exact((gD I).1).symm
  | arr k l z =>
   simp only[eU,Option.some.injEq,Prod.mk.injEq] at G;rw[←G.1];exact Blk.same_refl _
 have hf:∀m,m∈L→∀y,ρ m=some y→S1 y:=fun m I y hy=>.inr ⟨m,I,hy⟩;have hd:=nV J ha (κ':=κ0) hE 8
 have U:∀n,n∈L→n∉B∧(h n).isSome:=by
  intro n Y;rcases List.mem_append.1 Y with Y|Y
  ·exact(hd false _ _ _ _ hc (fun m I=>hf m (ho m I)) hx).2.2 n Y
  ·obtain⟨n',b,M,Lj,O,G,g3,g4⟩:=h6 n Y;cases b with
   | arr k l z =>
    simp only[eU,Option.some.injEq,Prod.mk.injEq] at g3;rw[←g3.2] at g4;simp at g4
   | var c z =>
    simp only[eU] at g3;cases I:eO (conv h 8 B false) c with
    |none=>rw[I] at g3;cases g3
    | some p =>
     obtain⟨c',Lp⟩:=p;rw[I] at g3;simp only[Option.map_some,Option.some.injEq,Prod.mk.injEq] at g3;obtain⟨_,rfl⟩:=g3;obtain⟨x,cs,T,fr,q1,q2,q3,q4,_,q5,q6,q7⟩:=J.blk n' _ G;obtain⟨i,hi⟩:=List.mem_iff_getElem?.1 O;rcases hg i n' hi with⟨p0,_⟩|⟨b1,b2,Lb,p1,p2,p3,p4,p5⟩
     ·rw[G] at p0;cases p0
     rw[G] at p1;obtain rfl:=Option.some.inj p1;simp only[eU,I,Option.map_some,Option.some.injEq,Prod.mk.injEq] at p2;obtain⟨_,rfl⟩:=p2;exact aCL J ha (κ':=κ0) hE I (fun m I=>hf m (hp m (p5 m I))) (fun j hj=>(q7 j hj).2) n g4
 have hv:∀n b,n∈B→h n=some b→b.fz=false→∀x,ρ n=some x→¬S1 x:=by
  rintro n b Y hb hz x hx (hs|⟨m,I,hmx⟩)
  ·have:=J.blk n b hb;cases b with
   | var c z =>
    obtain⟨y,_,_,_,O,_,_,G,_⟩:=this;obtain rfl:=Option.some.inj (hx.symm.trans O);exact G hz hs
   | arr k l z =>
    obtain⟨_,⟨O,_⟩|⟨y,_,_,_,O,_,_,G,_⟩⟩:=this
    ·rw[hx] at O;cases O
    ·obtain rfl:=Option.some.inj (hx.symm.trans O);exact G hz hs
  ·have:=J.inj m n x (U m I).2 (by simp[hb]) hmx hx;subst this;exact(U m I).1 Y
 have he:∀j M,Hn F (.b j)=some M→∃n b Lj,B[j]? = some n∧h n=some b∧eU h B b=some (M,Lj)∧(∀m,m∈Lj→m∈L2)∧M.fz=false:=by
  intro j M H
  have hj:j<B.length:=by
   rw[←h5];rcases Nat.lt_or_ge j F.length with h'|h'
   ·exact h'
   ·simp[Hn,List.getD,List.getElem?_eq_none h'] at H
  rcases hg j B[j] (by simp[hj]) with⟨_,g0⟩|⟨b,b2,Lj,O,G,g3,g4,g5⟩
  ·simp[Hn,List.getD,g0] at H
  have:M=b2:=by
   simp only[Hn,List.getD,g3,Option.getD_some,Option.some.injEq] at H;exact H.symm
  subst this;exact⟨B[j],b,Lj,by simp[hj],O,G,g5,g4⟩
 have ht:HOK S1 w ρ0 κ0 (Hn F):=by
  refine⟨fun m M H=>?_,fun m m' x h1 h2 h3 h4=>?_,?_,J.env.mono ha fun _ _=>rfl⟩
  ·cases m with
   |t=>simp[Hn] at H
   | b j =>
    obtain⟨n,b,Lj,g0,O,G,g5,g4⟩:=he j M H;obtain⟨e1,e2,_⟩:=hE j n g0;have hb:=J.blk n b O;have hq:=hv n b (List.mem_of_getElem? g0) O;cases b with
    | var c z =>
     simp only[eU] at G;cases I:eO (conv h 8 B false) c with
     |none=>rw[I] at G;cases G
     | some p =>
      obtain⟨c',Lp⟩:=p;rw[I] at G;simp only[Option.map_some,Option.some.injEq,Prod.mk.injEq] at G;obtain⟨rfl,rfl⟩:=G;obtain⟨x,cs,T,fr,q1,q2,q3,q4,hk,q5,q6,q7⟩:=hb;obtain⟨l1,l2⟩:=gD I;refine⟨x,cs,T,fr,by rw[e1];exact q1,q2,q3,fun hz=>hq hz x q1,fun hz=>.inl (hk hz),by rw[e2];exact q5,by omega,fun i hi=>⟨(q7 i (by omega)).1,?_⟩⟩;obtain⟨Li,l3,l4⟩:=l2 i (by omega);exact(hd false _ _ _ _ l3 (fun m I=>hf m (hp m (g5 m (l4 m I)))) (q7 i (by omega)).2).1 rfl
    | arr k l z =>
     simp only[eU,Option.some.injEq,Prod.mk.injEq] at G;obtain⟨rfl,rfl⟩:=G;obtain⟨q0,⟨q1,q2⟩|⟨x,cs,T,fr,q1,q2,q3,q4,hk,q5,q6,q7⟩⟩:=hb
     ·exact⟨q0,.inl ⟨by rw[e1];exact q1,q2⟩⟩
     ·exact⟨q0,.inr ⟨x,cs,T,fr,by rw[e1];exact q1,q2,q3,fun hz=>hq hz x q1,fun hz=>.inl (hk hz),by rw[e2];exact q5,q6,fun i j hi hj=>⟨(q7 i j hi hj).1,(q7 i j hi hj).2.mono ha fun _ _=>rfl⟩⟩⟩
  ·cases m with
   |t=>simp[Hn] at h1
   | b j =>
    cases m' with
    |t=>simp[Hn] at h2
    | b j' =>
     obtain⟨b1,hw⟩:=Option.isSome_iff_exists.1 h1;obtain⟨b2,h0⟩:=Option.isSome_iff_exists.1 h2;obtain⟨n,b,_,g0,O,_⟩:=he j b1 hw;obtain⟨n',M,_,hl,hu,_⟩:=he j' b2 h0;rw[(hE j n g0).1] at h3;rw[(hE j' n' hl).1] at h4;obtain rfl:=J.inj n n' x (by simp[O]) (by simp[hu]) h3 h4;congr 1;have e1:=oK hr g0;have e2:=oK hr hl;rw[e1] at e2;exact Option.some.inj e2
  ·rintro y (hy|⟨n,Y,hy⟩)
   ·exact J.dom y hy
   ·exact J.lt (U n Y).2 hy
 refine⟨S1,ρ0,κ0,ht,(hd false _ _ _ _ hc (fun m I=>hf m (ho m I)) hx).1 rfl,ha,?_,?_,hE⟩
 ·rintro b (hb|⟨n,Y,hb⟩)
  ·exact .inl hb
  ·exact .inr ⟨n,(U n Y).2,hb⟩
 ·intro j z hj hz;obtain⟨M,H⟩:=Option.isSome_iff_exists.1 hj;obtain⟨n,b,_,g0,O,_⟩:=he j M H;rw[(hE j n g0).1] at hz;exact⟨n,by simp[O],hz⟩
def aCF (P:Program) (rs:List ResultVar) (B:List Name) (r:AV) (hout:List (Option Blk)) (σ:St):Prop:=
 rR P σ (fun xs=>∃L1 L2,conv (aB σ.h) 8 B false (oJ xs)=some (r,L1)∧aA9 (aB σ.h) B B=some (hout,L2)) rs
theorem Fn.introD {H:Nat→Array Oper→Option (List Nat)}{f:FuncId}{fn:Func} (hd:iU P H) {I:Code}{ac:aF}{hin:List Blk}{args:List AV}{r:AV}{F:List (Option Blk)} (B:List Name)
  (hf:P.funcs[f]? = some fn) (G:fn.body=some I) (M:fn.name≠"runtime.NumGoroutine") (hc:bF P fn.ntmps H I=some ac.bare) (ho:args.length≤fn.ntmps) (hk:B.Nodup)
  (hB:∀j,j<hin.length→B[j]? = some (.b j))
  (hw:∀C:Ctx,C.nt=fn.ntmps→wpc P C H ac (aCF P fn.results.toList B r F) (fun e σ=>match e with|.ret=>aCF P fn.results.toList B r F σ|.exit _=>False) ⟨ini 0 args,aAF 0 hin⟩) :
  Fn P f hin args r F:=by
 refine⟨⟨fn,I,hf,G,M⟩,?_⟩;intro S w ρ κ vs hl _ hp L
 let C:Ctx:={nt:=fn.ntmps,w0:=w,S0:=S,Mut:=aAu ρ hin,ρ0:=fun j=>ρ (.b j),κ0:=fun j=>κ (.b j),h0:=fun j=>hin[j]?}
 have hC:=hw C rfl;refine calls_of_wp hf G ?_
 have J:∀a w',cK C (aCF P fn.results.toList B r F) a w'→a.defers=[]∧∃v,(results fn a.tmps).run P w'=.ok v w'∧
   ∃v2 S' ρ' κ',Ending.returned v=.returned v2∧Post S w ρ κ hin S' w' ρ' κ' F∧RV S' w' ρ' κ' (Hn F) r v2:=by
  rintro a w' ⟨σ,S1,ρ1,κ1,hK,hok1⟩;refine⟨hok1.defers,?_⟩;obtain⟨x,v,⟨L1,L2,O,h2⟩,h3,h4⟩:=uR hok1 (K:=fun x=>∃L1 L2,conv (aB σ.h) 8 B false x=some (r,L1)∧aA9 (aB σ.h) B B=some (F,L2)) hK;refine⟨v,h4,v,?_⟩;obtain⟨S',ρ',κ',g1,g2,g3,g4,g5,g6⟩:=aDT hok1.hok hk h3 O h2;refine⟨S',ρ',κ',rfl,⟨g1,hok1.size,fun b G hm=>hok1.old b G hm,fun b G=>g3 b (hok1.S0 b G),fun b G=>?_,fun j z Y hz=>?_,hok1.out,fun j b' Y he=>?_⟩,g2⟩
  ·rcases g4 b G with h|⟨n,U,h⟩
   ·exact hok1.Snew b h
   ·exact .inr (hok1.mine n b U h)
  ·obtain⟨n,U,h⟩:=g5 j z Y hz;exact hok1.mine n z U h
  ·obtain⟨e1,e2,e3⟩:=g6 j (.b j) (hB j Y);obtain⟨b,h5,h6⟩:=e3 b' he;obtain⟨e4,e5,b0,h7,h8⟩:=hok1.keep j b h5;exact⟨e1.trans e4,e2.trans e5,b0,h7,Blk.same_trans h8 h6⟩
 refine sM hd ac _ _ _ hC I _ _ w S ρ κ hc (fun a w' hg=>J a w' hg) (fun i a w' ⟨_,_,_,_,h,_⟩=>h.elim) (fun a w' hg=>J a w' hg) ?_
 have ha:∀n,((Hn (hin.map some)) n).isSome→∃j,j<hin.length∧n=.b j:=by
  intro n U;cases n with
  |t d j=>simp[Hn] at U
  | b j =>
   refine⟨j,?_,rfl⟩;rcases Nat.lt_or_ge j hin.length with h|h
   ·exact h
   ·simp[Hn,List.getD,List.getElem?_eq_none h] at U
 refine⟨?_,rfl,fun t=>?_,by simp only[St.f,kD];exact hl,Nat.le_refl _,fun _ _ _=>rfl,fun n x O h2=>?_,fun _ h=>h,fun b G=>.inl G,⟨rfl,rfl⟩,fun j b G=>?_⟩
 ·simp only[C,Array.size_append,Array.size_replicate];omega
 ·simp only[St.f,z8,Nat.zero_le,true_and,Nat.zero_add,Nat.sub_zero,kD];split
  ·rename_i ht
   have e:(vs++Array.replicate (fn.ntmps-vs.size) undef).getD t undef=vs.getD t undef:=by
    have O:t<vs.size:=by omega
    simp[Array.getElem?_append,O]
   rw[e];exact L t ht
  ·exact .junk _
 ·simp only[St.f,kD] at O;obtain⟨j,Y,rfl⟩:=ha n O;exact .inr ⟨j,Y,h2⟩
 ·simp only[St.f,kD] at G;refine⟨rfl,rfl,b,?_,b.same_refl⟩;simp only[Hn,List.getD,List.getElem?_map] at G;simp only[C];cases hx:hin[j]? with
  |none=>rw[hx] at G;simp at G
  |some b1=>rw[hx] at G;simpa using G
theorem bX.fnD {f:FuncId}{fn:Func}{ac:aF} (h:bX P f fn ac) (hm:P.follows .mixedOrders=true) {hin:List Blk}{args:List AV}{r:AV} (nt:Nat) (rs:List ResultVar) (B:List Name) (F:List (Option Blk)) (I:fn.ntmps=nt) (J:fn.results.toList=rs)
  (G:Nat.ble args.length nt=true) (H:nodupB B=true) (U:∀j,j<hin.length→B[j]? = some (.b j))
  (hw:∀C:Ctx,wpc P C (bE P) ac (aCF P rs B r F) (fun e σ=>match e with|.ret=>aCF P rs B r F σ|.exit _=>False) ⟨ini 0 args,aAF 0 hin⟩) :
  Fn P f hin args r F:=by
 subst I;subst J;obtain⟨M,h2,O⟩:=h;obtain⟨L,Y,hc⟩:=Option.bind_eq_some_iff.1 h2;exact Fn.introD (dB hm) B M Y (by simpa using O) hc (Nat.le_of_ble_eq_true G) (rW H) U fun C _=>hw C
attribute [go_sem] aCF aA9
end Go.Vs
