/- A function may leave a block that it was handed dead: a row that it has appended to, or that it keeps for itself. -/
import Derived.Test.YthbnjmgjhonfbaaGreatVtR
set_option linter.all false
set_option maxHeartbeats 8000000
namespace Go.Vs
variable [Envs]
variable {P:Program}{C:Ctx}{a:Act}{w:World}{S:Nat→Prop}{ρ:Name→Option Nat}{κ:Name→Nat}{h:Name→Option Blk}
def aBn (h:Name→Option Blk) (E:List Name):List Name→Option (List (Option Blk)×List Name)
 | []=>some ([],[])
 | n::r=>match h n,aBn h E r with
  |none,some (bs,L)=>some (none::bs,L)
  | some b,some (bs,L')=>match fJ h E b with
   |some (b',L)=>if b'.fz then none else some (some b'::bs,L++L')
   |none=>none
  |_,none=>none
theorem zK (h:Name→Option Blk) (E:List Name):∀{B:List Name}{bs:List (Option Blk)}{L:List Name},aBn h E B=some (bs,L)→bs.length=B.length∧
  (∀(j:Nat) (n:Name),B[j]? = some n→(h n=none∧bs[j]? = some none)∨∃b b' Lj,h n=some b∧fJ h E b=some (b',Lj)∧bs[j]? = some (some b')∧b'.fz=false∧∀m,m∈Lj→m∈L)∧
  ∀m,m∈L→∃(n:Name) (b b':Blk) (Lj:List Name),n∈B∧h n=some b∧fJ h E b=some (b',Lj)∧m∈Lj
 | [],bs,L,hb=>by
  simp only[aBn,Option.some.injEq,Prod.mk.injEq] at hb;obtain⟨rfl,rfl⟩:=hb;exact⟨rfl,by simp,by simp⟩
 | n::r,bs,L,hb=>by
  simp only[aBn] at hb;split at hb
  ·rename_i bs' L2 h1 h2;simp only[Option.some.injEq,Prod.mk.injEq] at hb;obtain⟨rfl,rfl⟩:=hb;obtain⟨h3,h4,h5⟩:=zK h E h2;refine⟨by simp[h3],fun j m hj=>?_,fun m hm=>?_⟩
   ·cases j with
    | zero =>
     simp only[List.getElem?_cons_zero,Option.some.injEq] at hj;subst hj;exact .inl ⟨h1,by simp⟩
    |succ j=>simpa using h4 j m (by simpa using hj)
   ·obtain⟨n',b1,b2,Lj,g1,g2,g3,g4⟩:=h5 m hm;exact⟨n',b1,b2,Lj,List.mem_cons_of_mem _ g1,g2,g3,g4⟩
  ·rename_i b bs' L2 h1 h2;split at hb
   ·rename_i b' L1 hc;split at hb
    ·cases hb
    ·rename_i hz;simp only[Option.some.injEq,Prod.mk.injEq] at hb;obtain⟨rfl,rfl⟩:=hb;obtain⟨h3,h4,h5⟩:=zK h E h2;refine⟨by simp[h3],fun j m hj=>?_,fun m hm=>?_⟩
     ·cases j with
      | zero =>
       simp only[List.getElem?_cons_zero,Option.some.injEq] at hj;subst hj;exact .inr ⟨b,b',L1,h1,hc,by simp,by simpa using hz,fun m hm=>List.mem_append_left _ hm⟩
      | succ j =>
       rcases h4 j m (by simpa using hj) with g|⟨b,b2,Lj,g1,g2,g3,g4,g5⟩
       ·exact .inl (by simpa using g)
       ·exact .inr ⟨b,b2,Lj,g1,g2,by simpa using g3,g4,fun m hm=>List.mem_append_right _ (g5 m hm)⟩
     ·rcases List.mem_append.1 hm with hm|hm
      ·exact⟨n,b,b',L1,by simp,h1,hc,hm⟩
      ·obtain⟨n',b1,b2,Lj,g1,g2,g3,g4⟩:=h5 m hm;exact⟨n',b1,b2,Lj,List.mem_cons_of_mem _ g1,g2,g3,g4⟩
   ·cases hb
  ·cases hb
theorem aD8 (hok:HOK S w ρ κ h) {B:List Name} (hnd:B.Nodup) {x y:AV}{v:Value}{hout:List (Option Blk)}{L1 L2:List Name} (hx:RV S w ρ κ h x v)
  (hc:conv h 8 B false x=some (y,L1)) (hbs:aBn h B B=some (hout,L2)) :
  ∃ (S':Nat→Prop) (ρ':Name→Option Nat) (κ':Name→Nat),HOK S' w ρ' κ' (Hn hout)∧RV S' w ρ' κ' (Hn hout) y v∧(∀b,S b→S' b)∧
   (∀b,S' b→S b∨∃n,(h n).isSome∧ρ n=some b)∧(∀j z,((hout.getD j none).isSome)→ρ' (.b j)=some z→∃n,(h n).isSome∧ρ n=some z)∧
   ∀j n,B[j]? = some n→ρ' (.b j)=ρ n∧κ' (.b j)=κ n∧∀b',Hn hout (.b j)=some b'→∃b,h n=some b∧b.same b':=by
 obtain⟨hbl,hbj,hbm⟩:=zK _ _ hbs
 let L:=L1++L2
 let S1:Nat→Prop:=fun y=>S y∨∃n,n∈L∧ρ n=some y
 let ρ0:Name→Option Nat:=fun m=>match m with|.b j=>(B[j]?).bind ρ|.t _ _=>none
 let κ0:Name→Nat:=fun m=>match m with|.b j=>((B[j]?).map κ).getD 0|.t _ _=>0
 have hS1:∀y,S y→S1 y:=fun y hy=>.inl hy;have hL1:∀n,n∈L1→n∈L:=fun n hn=>List.mem_append_left _ hn;have hL2:∀n,n∈L2→n∈L:=fun n hn=>List.mem_append_right _ hn
 have hE:∀j n,B[j]? = some n→ρ0 (.b j)=ρ n∧κ0 (.b j)=κ n∧∀b',Hn hout (.b j)=some b'→∃b,h n=some b∧b.same b':=by
  intro j n hj;refine⟨by simp[ρ0,hj],by simp[κ0,hj],fun b' hb'=>?_⟩;rcases hbj j n hj with⟨_,g0⟩|⟨b,b2,Lj,g1,g2,g3,_,_⟩
  ·simp[Hn,List.getD,g0] at hb'
  have:b'=b2:=by
   simp only[Hn,List.getD,g3,Option.getD_some,Option.some.injEq] at hb';exact hb'.symm
  subst this;refine⟨b,g1,?_⟩;cases b with
  | var c z =>
   simp only[fJ] at g2;cases hm:fB (conv h 8 B false) c with
   |none=>rw[hm] at g2;cases g2
   | some p =>
    rw[hm] at g2;simp only[Option.map_some,Option.some.injEq,Prod.mk.injEq] at g2;rw[←g2.1];exact((gQ hm).1).symm
  | arr k l z =>
   simp only[fJ,Option.some.injEq,Prod.mk.injEq] at g2;rw[←g2.1];exact Blk.same_refl _
 have hLS:∀m,m∈L→∀y,ρ m=some y→S1 y:=fun m hm y hy=>.inr ⟨m,hm,hy⟩;have spec:=uP hok hS1 (κ':=κ0) hE 8
 have hlent:∀n,n∈L→n∉B∧(h n).isSome:=by
  intro n hn;rcases List.mem_append.1 hn with hn|hn
  ·exact(spec false _ _ _ _ hc (fun m hm=>hLS m (hL1 m hm)) hx).2.2 n hn
  ·obtain⟨n',b,b',Lj,g1,g2,g3,g4⟩:=hbm n hn;cases b with
   | arr k l z =>
    simp only[fJ,Option.some.injEq,Prod.mk.injEq] at g3;rw[←g3.2] at g4;simp at g4
   | var c z =>
    simp only[fJ] at g3;cases hm:fB (conv h 8 B false) c with
    |none=>rw[hm] at g3;cases g3
    | some p =>
     obtain⟨c',Lp⟩:=p;rw[hm] at g3;simp only[Option.map_some,Option.some.injEq,Prod.mk.injEq] at g3;obtain⟨_,rfl⟩:=g3;obtain⟨x,cs,T,fr,q1,q2,q3,q4,_,q5,q6,q7⟩:=hok.blk n' _ g2;obtain⟨i,hi⟩:=List.mem_iff_getElem?.1 g1;rcases hbj i n' hi with⟨p0,_⟩|⟨b1,b2,Lb,p1,p2,p3,p4,p5⟩
     ·rw[g2] at p0;cases p0
     rw[g2] at p1;obtain rfl:=Option.some.inj p1;simp only[fJ,hm,Option.map_some,Option.some.injEq,Prod.mk.injEq] at p2;obtain⟨_,rfl⟩:=p2;exact aDa hok hS1 (κ':=κ0) hE hm (fun m hm=>hLS m (hL2 m (p5 m hm))) (fun j hj=>(q7 j hj).2) n g4
 have hBS:∀n b,n∈B→h n=some b→b.fz=false→∀x,ρ n=some x→¬S1 x:=by
  rintro n b hn hb hz x hx (hs|⟨m,hm,hmx⟩)
  ·have:=hok.blk n b hb;cases b with
   | var c z =>
    obtain⟨y,_,_,_,g1,_,_,g2,_⟩:=this;obtain rfl:=Option.some.inj (hx.symm.trans g1);exact g2 hz hs
   | arr k l z =>
    obtain⟨_,⟨g1,_⟩|⟨y,_,_,_,g1,_,_,g2,_⟩⟩:=this
    ·rw[hx] at g1;cases g1
    ·obtain rfl:=Option.some.inj (hx.symm.trans g1);exact g2 hz hs
  ·have:=hok.inj m n x (hlent m hm).2 (by simp[hb]) hmx hx;subst this;exact(hlent m hm).1 hn
 have hHn:∀j b',Hn hout (.b j)=some b'→∃n b Lj,B[j]? = some n∧h n=some b∧fJ h B b=some (b',Lj)∧(∀m,m∈Lj→m∈L2)∧b'.fz=false:=by
  intro j b' hb'
  have hj:j<B.length:=by
   rw[←hbl];rcases Nat.lt_or_ge j hout.length with h'|h'
   ·exact h'
   ·simp[Hn,List.getD,List.getElem?_eq_none h'] at hb'
  rcases hbj j B[j] (by simp[hj]) with⟨_,g0⟩|⟨b,b2,Lj,g1,g2,g3,g4,g5⟩
  ·simp[Hn,List.getD,g0] at hb'
  have:b'=b2:=by
   simp only[Hn,List.getD,g3,Option.getD_some,Option.some.injEq] at hb';exact hb'.symm
  subst this;exact⟨B[j],b,Lj,by simp[hj],g1,g2,g5,g4⟩
 have hok1:HOK S1 w ρ0 κ0 (Hn hout):=by
  refine⟨fun m b' hb'=>?_,fun m m' x h1 h2 h3 h4=>?_,?_,hok.env.mono hS1 fun _ _=>rfl⟩
  ·cases m with
   |t=>simp[Hn] at hb'
   | b j =>
    obtain⟨n,b,Lj,g0,g1,g2,g5,g4⟩:=hHn j b' hb';obtain⟨e1,e2,_⟩:=hE j n g0;have hb:=hok.blk n b g1;have hnS:=hBS n b (List.mem_of_getElem? g0) g1;cases b with
    | var c z =>
     simp only[fJ] at g2;cases hm:fB (conv h 8 B false) c with
     |none=>rw[hm] at g2;cases g2
     | some p =>
      obtain⟨c',Lp⟩:=p;rw[hm] at g2;simp only[Option.map_some,Option.some.injEq,Prod.mk.injEq] at g2;obtain⟨rfl,rfl⟩:=g2;obtain⟨x,cs,T,fr,q1,q2,q3,q4,q4',q5,q6,q7⟩:=hb;obtain⟨l1,l2⟩:=gQ hm;refine⟨x,cs,T,fr,by rw[e1];exact q1,q2,q3,fun hz=>hnS hz x q1,fun hz=>.inl (q4' hz),by rw[e2];exact q5,by omega,fun i hi=>⟨(q7 i (by omega)).1,?_⟩⟩;obtain⟨Li,l3,l4⟩:=l2 i (by omega);exact(spec false _ _ _ _ l3 (fun m hm=>hLS m (hL2 m (g5 m (l4 m hm)))) (q7 i (by omega)).2).1 rfl
    | arr k l z =>
     simp only[fJ,Option.some.injEq,Prod.mk.injEq] at g2;obtain⟨rfl,rfl⟩:=g2;obtain⟨q0,⟨q1,q2⟩|⟨x,cs,T,fr,q1,q2,q3,q4,q4',q5,q6,q7⟩⟩:=hb
     ·exact⟨q0,.inl ⟨by rw[e1];exact q1,q2⟩⟩
     ·exact⟨q0,.inr ⟨x,cs,T,fr,by rw[e1];exact q1,q2,q3,fun hz=>hnS hz x q1,fun hz=>.inl (q4' hz),by rw[e2];exact q5,q6,fun i j hi hj=>⟨(q7 i j hi hj).1,(q7 i j hi hj).2.mono hS1 fun _ _=>rfl⟩⟩⟩
  ·cases m with
   |t=>simp[Hn] at h1
   | b j =>
    cases m' with
    |t=>simp[Hn] at h2
    | b j' =>
     obtain⟨b1,hb1⟩:=Option.isSome_iff_exists.1 h1;obtain⟨b2,hb2⟩:=Option.isSome_iff_exists.1 h2;obtain⟨n,b,_,g0,g1,_⟩:=hHn j b1 hb1;obtain⟨n',b',_,g0',g1',_⟩:=hHn j' b2 hb2;rw[(hE j n g0).1] at h3;rw[(hE j' n' g0').1] at h4;obtain rfl:=hok.inj n n' x (by simp[g1]) (by simp[g1']) h3 h4;congr 1;have e1:=o8 hnd g0;have e2:=o8 hnd g0';rw[e1] at e2;exact Option.some.inj e2
  ·rintro y (hy|⟨n,hn,hy⟩)
   ·exact hok.dom y hy
   ·exact hok.lt (hlent n hn).2 hy
 refine⟨S1,ρ0,κ0,hok1,(spec false _ _ _ _ hc (fun m hm=>hLS m (hL1 m hm)) hx).1 rfl,hS1,?_,?_,hE⟩
 ·rintro b (hb|⟨n,hn,hb⟩)
  ·exact .inl hb
  ·exact .inr ⟨n,(hlent n hn).2,hb⟩
 ·intro j z hj hz;obtain⟨b',hb'⟩:=Option.isSome_iff_exists.1 hj;obtain⟨n,b,_,g0,g1,_⟩:=hHn j b' hb';rw[(hE j n g0).1] at hz;exact⟨n,by simp[g1],hz⟩
def aC4 (P:Program) (rs:List ResultVar) (B:List Name) (r:AV) (hout:List (Option Blk)) (σ:St):Prop:=
 aHo P σ (fun xs=>∃L1 L2,conv (aB σ.h) 8 B false (aEF xs)=some (r,L1)∧aBn (aB σ.h) B B=some (hout,L2)) rs
theorem Fn.introD {drawn:Nat→Array Oper→Option (List Nat)}{f:FuncId}{fn:Func} (hdr:nG P drawn) {body:Code}{ac:aD}{hin:List Blk}{args:List AV}{r:AV}{hout:List (Option Blk)} (B:List Name)
  (hf:P.funcs[f]? = some fn) (hb:fn.body=some body) (hname:fn.name≠"runtime.NumGoroutine") (hc:bU P fn.ntmps drawn body=some ac.bare) (hna:args.length≤fn.ntmps) (hnd:B.Nodup)
  (hB:∀j,j<hin.length→B[j]? = some (.b j))
  (hw:∀C:Ctx,C.nt=fn.ntmps→wpc P C drawn ac (aC4 P fn.results.toList B r hout) (fun e σ=>match e with|.ret=>aC4 P fn.results.toList B r hout σ|.exit _=>False) ⟨ini 0 args,aAq 0 hin⟩) :
  Fn P f hin args r hout:=by
 refine⟨⟨fn,body,hf,hb,hname⟩,?_⟩;intro S w ρ κ vs hok _ hvs hargs
 let C:Ctx:={nt:=fn.ntmps,w0:=w,S0:=S,Mut:=aCH ρ hin,ρ0:=fun j=>ρ (.b j),κ0:=fun j=>κ (.b j),h0:=fun j=>hin[j]?}
 have hC:=hw C rfl;refine calls_of_wp hf hb ?_
 have hret:∀a w',dF C (aC4 P fn.results.toList B r hout) a w'→a.defers=[]∧∃v,(results fn a.tmps).run P w'=.ok v w'∧
   ∃v2 S' ρ' κ',Ending.returned v=.returned v2∧Post S w ρ κ hin S' w' ρ' κ' hout∧RV S' w' ρ' κ' (Hn hout) r v2:=by
  rintro a w' ⟨σ,S1,ρ1,κ1,hK,hok1⟩;refine⟨hok1.defers,?_⟩;obtain⟨x,v,⟨L1,L2,h1,h2⟩,h3,h4⟩:=aDP hok1 (K:=fun x=>∃L1 L2,conv (aB σ.h) 8 B false x=some (r,L1)∧aBn (aB σ.h) B B=some (hout,L2)) hK;refine⟨v,h4,v,?_⟩;obtain⟨S',ρ',κ',g1,g2,g3,g4,g5,g6⟩:=aD8 hok1.hok hnd h3 h1 h2;refine⟨S',ρ',κ',rfl,⟨g1,hok1.size,fun b hb hm=>hok1.old b hb hm,fun b hb=>g3 b (hok1.S0 b hb),fun b hb=>?_,fun j z hj hz=>?_,hok1.out,fun j b' hj hj'=>?_⟩,g2⟩
  ·rcases g4 b hb with h|⟨n,hn,h⟩
   ·exact hok1.Snew b h
   ·exact .inr (hok1.mine n b hn h)
  ·obtain⟨n,hn,h⟩:=g5 j z hj hz;exact hok1.mine n z hn h
  ·obtain⟨e1,e2,e3⟩:=g6 j (.b j) (hB j hj);obtain⟨b,h5,h6⟩:=e3 b' hj';obtain⟨e4,e5,b0,h7,h8⟩:=hok1.keep j b h5;exact⟨e1.trans e4,e2.trans e5,b0,h7,Blk.same_trans h8 h6⟩
 refine tC hdr ac _ _ _ hC body _ _ w S ρ κ hc (fun a w' hg=>hret a w' hg) (fun i a w' ⟨_,_,_,_,h,_⟩=>h.elim) (fun a w' hg=>hret a w' hg) ?_
 have hmem:∀n,((Hn (hin.map some)) n).isSome→∃j,j<hin.length∧n=.b j:=by
  intro n hn;cases n with
  |t d j=>simp[Hn] at hn
  | b j =>
   refine⟨j,?_,rfl⟩;rcases Nat.lt_or_ge j hin.length with h|h
   ·exact h
   ·simp[Hn,List.getD,List.getElem?_eq_none h] at hn
 refine⟨?_,rfl,fun t=>?_,by simp only[St.f,kR];exact hok,Nat.le_refl _,fun _ _ _=>rfl,fun n x h1 h2=>?_,fun _ h=>h,fun b hb=>.inl hb,⟨rfl,rfl⟩,fun j b hb=>?_⟩
 ·simp only[C,Array.size_append,Array.size_replicate];omega
 ·simp only[St.f,aAk,Nat.zero_le,true_and,Nat.zero_add,Nat.sub_zero,kR];split
  ·rename_i ht
   have e:(vs++Array.replicate (fn.ntmps-vs.size) undef).getD t undef=vs.getD t undef:=by
    have h1:t<vs.size:=by omega
    simp[Array.getElem?_append,h1]
   rw[e];exact hargs t ht
  ·exact .junk _
 ·simp only[St.f,kR] at h1;obtain⟨j,hj,rfl⟩:=hmem n h1;exact .inr ⟨j,hj,h2⟩
 ·simp only[St.f,kR] at hb;refine⟨rfl,rfl,b,?_,b.same_refl⟩;simp only[Hn,List.getD,List.getElem?_map] at hb;simp only[C];cases hx:hin[j]? with
  |none=>rw[hx] at hb;simp at hb
  |some b1=>rw[hx] at hb;simpa using hb
theorem kC.fnD {f:FuncId}{fn:Func}{ac:aD} (h:kC P f fn ac) (hm:P.follows .mixedOrders=true) {hin:List Blk}{args:List AV}{r:AV} (nt:Nat) (rs:List ResultVar) (B:List Name) (hout:List (Option Blk)) (hnt:fn.ntmps=nt) (hrs:fn.results.toList=rs)
  (hna:Nat.ble args.length nt=true) (hnd:nodupB B=true) (hB:∀j,j<hin.length→B[j]? = some (.b j))
  (hw:∀C:Ctx,wpc P C (iL P) ac (aC4 P rs B r hout) (fun e σ=>match e with|.ret=>aC4 P rs B r hout σ|.exit _=>False) ⟨ini 0 args,aAq 0 hin⟩) :
  Fn P f hin args r hout:=by
 subst hnt;subst hrs;obtain⟨h1,h2,h3⟩:=h;obtain⟨body,hb,hc⟩:=Option.bind_eq_some_iff.1 h2;exact Fn.introD (pM hm) B h1 hb (by simpa using h3) hc (Nat.le_of_ble_eq_true hna) (sI hnd) hB fun C _=>hw C
attribute [go_sem] aC4 aBn
end Go.Vs
