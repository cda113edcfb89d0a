/- A deck is copied by the program into new memory, all of it. -/
import Derived.Test.YtkgeiaideklmoaaGreatZwC
import Derived.Test.YtkgeiaideklmoaaGreatVtR
import Derived.Test.YtkgeiaideklmoaaGreatVtZ
import Derived.Test.YtkgeiaideklmoaaGreatZwK
set_option linter.all false
set_option maxHeartbeats 8000000
namespace Go.Proofs.YtkgeiaideklmoaaGreat
open Go.Vs
section
variable [Vs.Envs]
attribute [local irreducible] Vs.Fn
theorem aLS (x:List Int) (I:x.length<=1048576):Vs.Fn Tryz.prog F.nQ [] [.agg (cC x)] (.agg [.loc (.b 0) 0 x.length]) [some (.arr 1 (E cI x) false)]:=by
 have H:Vs.Fn Tryz.prog F.oZ [] [.sl 1 (E cI x)] (.loc (.b 0) 0 x.length) [some (.arr 1 (E cI x) false)]:=aLP Tryz.mixed Cd.l_toInt64S_k.o Cd.l_toInt64S_k.n Cd.l_toInt64S_k.r rfl I;refine fn1 Cd.l_toCard_k [.t 6 0] [.arr 1 (E cI x) false] λX=>?_;unfold Cd.nQ
 repeat' first|simp -dsimp only[go_sem,cC,Int.reduceBEq,Int.reduceBNe,cC,aH,Af,Ag,Al,Aq,Ae,Ai,Ac,Ak,Ab,Ah,Am,Au,Ap,Ao,AX,BH,Vs.Name.t.injEq,Aw,A9,Vs.Name.b.injEq,AJ,Bn]|apply Br.mk<;>intro h<;>try simp -dsimp only[h]|refine aB.own (by first|exact H) rfl ?_|refine aC ?_|fail
 all_goals first|omega|exact⟨_,_,rfl,rfl⟩
attribute [local go_sem] Int.reduceBEq Int.reduceBNe aH Af Ag Al Aq Ae Ai Ac Ak Ab Ah Am Au Ap Ao AX BH Vs.Name.t.injEq Aw A9 Vs.Name.b.injEq AJ Bn in
theorem aFj (l:List (List Int)) (hk:aZ l) {S:Nat->Prop}{w:World}{v0:Value} (hS:∀b,S b->b<w.heap.size) (he:Env S w) (h0:RC S w (.sl 1 (E cC l)) v0) :
  Calls Tryz.prog F.jL #[v0] w λe w'=>∃v D ss xs cs x0,e=.returned v∧w.heap.size<=w'.heap.size∧(∀b,b<w.heap.size->w'.heap[b]? = w.heap[b]?)∧(w'.os=w.os∧w'.output=w.output)∧RC D w' (.sl 1 (E cC l)) v∧(∀b,D b->w.heap.size<=b∧b<w'.heap.size)∧RC (λb=>x0=some b) w' (.sl 1 (ss.map λs=>[AV.v s])) v∧(∀b,x0=some b->D b)∧(∀i b,i<ss.length->xs i=some b->D b)∧mD (λb=>b<w.heap.size∨x0=some b) w' 1 (l.map (E cI)) ss xs cs:=by
 obtain⟨h1,h2,_⟩:=Cd.l_toCardS_k.o;obtain⟨qr,H,hc⟩:=AY.1 h2;have hz:(Tryz.f10.body.map (zB Tryz.f10.ntmps (aW Tryz.prog)))=some true:=by kernel_rfl
 rw[H] at hz;have hl:=bB Tryz.mixed;refine vV (dr:=aW Tryz.prog) (ac:=Cd.jL) h1 H hc (by simpa using hz) (args:=[.sl 1 (E cC l)]) (by rw[Cd.l_toCardS_k.n];exact Bc rfl) hS he rfl (λj Z=>?_) (λ_=>False) λa J=>?_
 .match j,Z with
  |0,_=>exact h0
 generalize ho:(⟨Tryz.f10.ntmps,w,S,λ_=>False,λ_=>none,λ_=>0,λ_=>none⟩:Ctx)=C0 at J;have hu:C0.nt=Tryz.f10.ntmps:=by rw[←ho]
 have hd:C0.w0=w:=by rw[←ho]
 have O:(E cC l).length=l.length:=aH _;unfold Cd.jL;refine At.step ⟨[(0,.sl 1 (E cC l))],[]⟩ hl J hu ?_ λa w1 S1 ρ1 κ1 J=>?_
 .simp -dsimp only[go_sem,O,cC]
  try simp[Vs.LeL,Vs.look,aA]
 refine At.step ⟨[(0,.sl 1 (E cC l)),(3,.loc (.t 7 0) 0 l.length)],[(.t 7 0,.arr 1 (List.replicate l.length [.v (.slice none 0 0)]) false)]⟩ hl J hu ?_ λa w2 S2 ρ2 κ2 J=>?_
 .simp -dsimp only[go_sem,O,cC];have qp:(l.length:Int)*((24:Nat):Int)<=2 ^ 47:=by have:=hk.1;omega
  exact⟨⟨by omega,qp,by have:=hk.1;omega⟩,by simp[Vs.LeL,Vs.look,aA]⟩
 refine At.seq (At.step ⟨[(0,.sl 1 (E cC l)),(3,.loc (.t 7 0) 0 l.length),(4,.v (.int .i64 ((0:Nat):Int)))],[(.t 7 0,.arr 1 (List.replicate l.length [.v (.slice none 0 0)]) false)]⟩ hl J hu ?_ λa w3 S3 ρ3 κ3 J=>?_)
 .simp -dsimp only[go_sem,O,cC]
  try simp[Vs.LeL,Vs.look,aA]
 refine At.block ?_
 let T:Nat->List Value->St:=λi ss=>⟨[(0,.sl 1 (E cC l)),(3,.loc (.t 7 0) 0 l.length),(4,.v (.int .i64 (i:Int)))],[(.t 7 0,.arr 1 (ss.map (λs=>[AV.v s])++List.replicate (l.length-i) [.v (.slice none 0 0)]) false)]⟩
 let I:Nat->Act->World->Prop:=λn a w=>∃(i:Nat) (ss:List Value) (D:Nat->Prop) (C:Ctx) (S:Nat->Prop) (ρ:Vs.Name->Option Nat) (κ:Vs.Name->Nat),n=l.length-i∧i<=l.length∧ss.length=i∧C.nt=C0.nt∧Later C0 C∧OK C (T i ss).f a w S ρ κ∧(∀b,D b->C0.w0.heap.size<=b)∧Hid C D (.tup ((l.take i).map λr=>.sl 1 (E cI r))) (.tuple ss.toArray)∧∃xs cs,mD C.S0 C.w0 1 ((l.take i).map (E cI)) ss xs cs∧∀j b,j<ss.length->xs j=some b->D b
 refine At.loop I (λn a w hI=>?_) (n:=l.length) ?_
 rotate_left
 .refine⟨0,[],λ_=>False,C0.anew w3 S3 _ ρ3,S3,ρ3,κ3,by omega,by omega,rfl,rfl,J.later,?_,λb H=>H.elim,⟨.tup _ _ rfl (by simp),λb H=>H.elim,λb H=>H.elim⟩,λ_=>none,λ_=>0,⟨rfl,by simp,by simp⟩,by simp⟩;have e:T 0 []=⟨[(0,.sl 1 (E cC l)),(3,.loc (.t 7 0) 0 l.length),(4,.v (.int .i64 ((0:Nat):Int)))],[(.t 7 0,.arr 1 (List.replicate l.length [.v (.slice none 0 0)]) false)]⟩:=by simp[T]
  rw[e];exact J.anew
 obtain⟨i,ss,D,C,S,ρ,κ,hn,hi,hm,h6,hy,J,hD,hh,xs,cs,h4,hf⟩:=hI;have U:C.nt=Tryz.f10.ntmps:=h6.trans hu;refine At.seq (At.fw hl J U (N:=fun σ'=>LeL σ' (T i ss)∧i<l.length) (E:=λe σ'=>match e with|.exit j=>j=0∧LeL σ' (T i ss)∧i=l.length|.ret=>False) ?_ (λa w hg=>?_) (λj a w hg=>?_) (λa w hg=>hg.no.elim))
 .simp only[T];simp -dsimp only[go_sem,O,cC];refine Br.mk (λhc=>?_) λhc=>?_
  .have ha:i<l.length:=by have:=BJ hc;omega
   try simp -dsimp only[go_sem,O,cC]
   exact⟨by simp[Vs.LeL,Vs.look,aA],ha⟩
  .have qn:i=l.length:=by have:=BQ hc;omega
   try simp -dsimp only[go_sem,O,cC]
   exact⟨by simp[Vs.LeL,Vs.look,aA],qn⟩
 rotate_left
 .-- the loop's end
  obtain⟨σ',S',ρ',κ',⟨rfl,h3,rfl⟩,hp⟩:=hg;have J:=hp.le h3;simp only[Exit.then,Exit.inBlock,Bj];refine At.step ⟨[(2,.loc (.t 7 0) 0 ss.length)],[(.t 7 0,.arr 1 (ss.map λs=>[AV.v s]) false)]⟩ hl J U ?_ λa w4 S4 ρ4 κ4 L=>?_
  .simp only[T]
   try simp -dsimp only[go_sem,O,cC]
   simp[Vs.LeL,Vs.look,aA,hm]
  refine At.ret ⟨.inl rfl,L.defers,?_⟩
  obtain ⟨x,v,hx,qi,qh⟩:=mE L (fn:=Tryz.f10) (K:=λx=>x=.loc (.t 7 0) 0 ss.length) (by
    show dQ Tryz.prog _ _ [_]
    simp[dQ,qX,Vs.look,dU])
  subst hx;have hq:=L.back hy;have h8:=L.graft (n:=.t 7 0) (ss:=ss) (by rfl) hh qi;have qa:(((l.take l.length).map λr=>AV.sl 1 (E cI r)).map λx=>[x])=E cC l:=by simp[E,cC,Cc]
  rw[qa] at h8;refine⟨v,qh,v,_,ss,xs,cs,ρ4 (.t 7 0),rfl,?_,λb H=>?_,?_,h8,λb H=>?_,?_,λb H=>.inr H,λj b Z H=>.inl (hf j b Z H),?_⟩
  .have:=hq.size;rw[hd] at this;exact this
  .have:=hq.old b (by rw[hd];exact H) (by rw[←ho];exact λh=>h);rw[hd] at this;exact this
  .have:=hq.out;rw[hd] at this;exact this
  .rcases H with H|H
   .exact⟨hd ▸ hD b H,(hh.same L).2.1 b H⟩
   .refine⟨?_,L.hok.lt (n:=.t 7 0) (by rfl) H⟩;rcases hq.mine (.t 7 0) b (by rfl) H with h|h
    .exact hd ▸ h
    .rw[←ho] at h;exact h.elim
  .exact L.expose (n:=.t 7 0) (by rfl) (λr hr=>by
     obtain⟨y,_,rfl⟩:=Bq.1 hr;rfl) (by simpa using qi)
  .rw[Bv] at h4;refine h4.mono (λj b Z H hs=>?_) λj b Z H=>(hh.same L).1 b (hf j b Z H);have h5:=hf j b Z H;rcases hs with hs|hs
   .have:=hD b h5;rw[hd] at this;omega
   .exact(hh.same L).2.2.2 b h5 (.t 7 0) (by rfl) hs
 obtain⟨σ',S',ρ',κ',⟨h3,ha⟩,hp⟩:=hg;have J:=hp.le h3;have hw:=aG ha hk.1;have h9:(E cC l).getD i []=[.sl 1 (E cI l[i])]:=aN ha;have TC:=aLS l[i] (hk.2 _ (Aa ha));show At Tryz.prog _ _ (.seq _ _) _ a w
 refine At.seq (At.block (At.halt (pre:=[⟨some 14,.mv (.tmp 3),none⟩,⟨some 15,.mv (.tmp 4),none⟩,⟨some 16,.mv (.tmp 0),none⟩,⟨some 17,.mv (.tmp 4),none⟩,⟨some 18,.idxSl 1 (.tmp 16) (.tmp 17),none⟩,⟨some 19,.load true 1 (.tmp 18),none⟩,⟨some 20,.call (.func F.nQ) [(.tmp 19)] [],none⟩]) (post:=[⟨some 21,.idxSl 1 (.tmp 14) (.tmp 15),none⟩,⟨none,.store 1 (.tmp 21) (.tmp 20),none⟩]) J U ?_));simp only[T];simp -dsimp only[go_sem,O,h9,cC,cC];refine⟨⟨by omega,by omega⟩,?_⟩;refine aB.own TC rfl ?_;simp -dsimp only[go_sem,O,h9,cC,cC];intro a w S2 ρ2 κ2 qb;have qq:(E cI l[i]).length=l[i].length:=aH _
 let σA:St:=⟨[(20,.agg [.loc (.t 20 0) 0 (E cI l[i]).length]),(15,.v (.int .i64 (i:Int))),(14,.loc (.t 7 0) 0 l.length),(0,.sl 1 (E cC l)),(3,.loc (.t 7 0) 0 l.length),(4,.v (.int .i64 (i:Int)))],[(.t 20 0,.arr 1 (E cI l[i]) false),(.t 7 0,.arr 1 (ss.map (λs=>[AV.v s])++List.replicate (l.length-i) [.v (.slice none 0 0)]) false)]⟩
 have Y:OK C σA.f a w S2 ρ2 κ2:=qb.le (by simp[σA,Vs.LeL,Vs.look,aA,qq])
 obtain ⟨s,C',ht,qc,qo,⟨sb,sn,sc,rfl⟩,qk,qj,qg⟩:=Y.bury (n:=.t 20 0) (k:=1) (rows:=E cI l[i]) (t:=20) rfl (λr hr=>by
   obtain⟨y,_,rfl⟩:=Bq.1 hr;rfl) rfl hh
 have qm:=Y.back hy;have hv:=(h4.mono (S':=S2) (w':=w) (λj b Z H=>(hh.same Y).2.2.1 b (hf j b Z H)) λj b Z H=>(hh.same Y).1 b (hf j b Z H)).snoc qg (λj b Z H=>(hh.same Y).2.2.2 b (hf j b Z H) (.t 20 0) (by rfl))
 have e3:(l.take i).map (E cI)++[E cI l[i]]=(l.take (i+1)).map (E cI):=by
  rw[Dw ha,Bu];rfl
 rw[e3,←qk,←qj] at hv
 have ql:∀b,(D b∨ρ2 (.t 20 0)=some b)->C0.w0.heap.size<=b:=λb H=>by
  rcases H with H|H
  .exact hD b H
  .rcases qm.mine (.t 20 0) b (by rfl) H with h|h
   .exact h
   .rw[←ho] at h;exact h.elim
 let σB:St:=⟨[(20,.agg [.v (.slice sb sn sc)]),(15,.v (.int .i64 (i:Int))),(14,.loc (.t 7 0) 0 l.length),(0,.sl 1 (E cC l)),(3,.loc (.t 7 0) 0 l.length),(4,.v (.int .i64 (i:Int)))],[(.t 7 0,.arr 1 (ss.map (λs=>[AV.v s])++List.replicate (l.length-i) [.v (.slice none 0 0)]) false)]⟩
 have qf:OK C' σB.f a w S2 ρ2 κ2:=qc.le (by simp[σA,σB,bW,Vs.LeL,Vs.look,aA,Vs.scr,rF,Vs.AV.has,nZ,Vs.Blk.has])
 have hset:((ss.map λs=>[AV.v s])++List.replicate (l.length-i) [AV.v (.slice none 0 0)]).set i [.v (.slice sb sn sc)]=((ss++[Value.slice sb sn sc]).map λs=>[AV.v s])++List.replicate (l.length-(i+1)) [AV.v (.slice none 0 0)]:=by
  have e:l.length-i=(l.length-(i+1))+1:=by omega
  rw[e,Af,Cy _ _ (by simp[hm])];simp[hm]
 have qs:((ss.map λs=>[AV.v s])++List.replicate (l.length-i) [AV.v (.slice none 0 0)]).length=l.length:=by simp[hm];omega
 have h7:((ss.map λs=>[AV.v s])++List.replicate (l.length-i) [AV.v (.slice none 0 0)]).getD i []=[AV.v (.slice none 0 0)]:=by
  have:0<l.length-i:=by omega
  simp[Bi,hm,this]
 refine⟨C',σB,S2,ρ2,κ2,fun σ'=>LeL σ' ⟨[(0,.sl 1 (E cC l)),(3,.loc (.t 7 0) 0 l.length),(4,.v (.int .i64 (i:Int)))],[(.t 7 0,.arr 1 ((ss++[Value.slice sb sn sc]).map (λs=>[AV.v s])++List.replicate (l.length-(i+1)) [.v (.slice none 0 0)]) false)]⟩,ht.nt.trans U,qf,?_,λa w hg=>?_⟩
 .simp only[σB];simp -dsimp only[go_sem,O,cC];refine⟨⟨by omega,by omega⟩,by rw[h7];exact Ar _,?_⟩;rw[h7];simp only[Ac];rw[hset];simp[Vs.LeL,Vs.look,aA]
 obtain⟨S5,ρ5,κ5,qd⟩:=hg.le;show At Tryz.prog _ _ (.region _ _ _) _ a w
 refine At.fw hl qd (ht.nt.trans U) (N:=fun σ'=>LeL σ' (T (i+1) (ss++[Value.slice sb sn sc]))) (E:=λ_ _=>False) ?_ (λa w hg=>?_) (λj a w hg=>hg.no.elim) (λa w hg=>hg.no.elim)
 .simp -dsimp only[go_sem,O,cC];simp[T,Vs.LeL,Vs.look,aA,hw]
 obtain⟨S6,ρ6,κ6,qe⟩:=hg.le;refine⟨l.length-(i+1),by omega,i+1,ss++[Value.slice sb sn sc],_,C',S6,ρ6,κ6,rfl,by omega,by simp[hm],ht.nt.trans h6,hy.trans ht,qe,ql,?_,_,_,hv,?_⟩
 .rw[Dw ha,Bu];exact qo
 .intro j b Z H;simp only[AQ,Cf] at Z;split at H
  .exact .inr H
  .exact .inl (hf j b (by omega) H)
end
section
variable [Vs.Envs]
attribute [local irreducible] Vs.Fn
theorem At.naming {P:Program}{nt:Nat}{dr:Nat->Array Oper->Option (List Nat)}{n:Nat}{x:aD}{Q:Exit->Act->World->Prop}{a:Act}{w:World} (h:At P nt dr x Q a w):At P nt dr (.naming n x) Q a w:=h
theorem aCU (x:List Int) (I:x.length<=1048576):Vs.Fn Tryz.prog F.jN [] [.agg (cC x)] (.agg [.loc (.b 0) 0 x.length]) [some (.arr 1 (E cI x) false)]:=by
 have H:=zP x I;refine fn1 Cd.i_newCard_k [.t 5 0] [.arr 1 (E cI x) false] λX=>?_;unfold Cd.jN
 repeat' first|simp -dsimp only[go_sem,cC,Int.reduceBEq,Int.reduceBNe,cC,aH,Af,Ag,Al,Aq,Ae,Ai,Ac,Ak,Ab,Ah,Am,Au,Ap,Ao,AX,BH,Vs.Name.t.injEq,Aw,A9,Vs.Name.b.injEq,AJ,Bn]|apply Br.mk<;>intro h<;>try simp -dsimp only[h]|refine aB.own (by first|exact H) rfl ?_|refine aC ?_|fail
 all_goals first|omega|exact⟨_,_,rfl,rfl⟩
attribute [local go_sem] Int.reduceBEq Int.reduceBNe aH Af Ag Al Aq Ae Ai Ac Ak Ab Ah Am Au Ap Ao AX BH Vs.Name.t.injEq Aw A9 Vs.Name.b.injEq AJ Bn in
theorem aFL (l:List (List Int)) (hk:aZ l) {S:Nat->Prop}{w:World}{v0:Value} (hS:∀b,S b->b<w.heap.size) (he:Env S w) (h0:RC S w (.sl 1 (E cC l)) v0) :
  Calls Tryz.prog F.dE #[v0] w λe w'=>∃v D ss xs cs x0,e=.returned v∧w.heap.size<=w'.heap.size∧(∀b,b<w.heap.size->w'.heap[b]? = w.heap[b]?)∧(w'.os=w.os∧w'.output=w.output)∧RC D w' (.sl 1 (E cC l)) v∧(∀b,D b->w.heap.size<=b∧b<w'.heap.size)∧RC (λb=>x0=some b) w' (.sl 1 (ss.map λs=>[AV.v s])) v∧(∃c,Own (λ_=>False) w' x0 c 1 (ss.map λs=>[AV.v s]) v)∧(∀b,x0=some b->D b)∧(∀i b,i<ss.length->xs i=some b->D b)∧mD (λb=>b<w.heap.size∨x0=some b) w' 1 (l.map (E cI)) ss xs cs:=by
 obtain⟨h1,h2,_⟩:=Cd.i_newDeck_k.o;obtain⟨qq,H,hc⟩:=AY.1 h2;have hz:(Tryz.f103.body.map (zB Tryz.f103.ntmps (aW Tryz.prog)))=some true:=by kernel_rfl
 rw[H] at hz;have Y:=bB Tryz.mixed;refine vV (dr:=aW Tryz.prog) (ac:=Cd.dE) h1 H hc (by simpa using hz) (args:=[.sl 1 (E cC l)]) (by rw[Cd.i_newDeck_k.n];exact Bc rfl) hS he rfl (λj hj=>?_) (λ_=>False) λa J=>?_
 .match j,hj with
  |0,_=>exact h0
 generalize hl:(⟨Tryz.f103.ntmps,w,S,λ_=>False,λ_=>none,λ_=>0,λ_=>none⟩:Ctx)=C0 at J;have ht:C0.nt=Tryz.f103.ntmps:=by rw[←hl]
 have hd:C0.w0=w:=by rw[←hl]
 have O:(E cC l).length=l.length:=aH _;unfold Cd.dE;refine At.step ⟨[(0,.sl 1 (E cC l))],[]⟩ Y J ht ?_ λa w1 S1 ρ1 κ1 J=>?_
 .simp -dsimp only[go_sem,O,cC]
  try simp[Vs.LeL,Vs.look,aA]
 refine At.step ⟨[(0,.sl 1 (E cC l)),(3,.loc (.t 3 0) 0 0)],[(.t 3 0,.arr 1 [] false)]⟩ Y J ht ?_ λa w2 S2 ρ2 κ2 J=>?_
 .simp -dsimp only[go_sem,O,cC]
  try simp[Vs.LeL,Vs.look,aA]
 refine At.seq (At.step ⟨[(7,.sl 1 (E cC l)),(8,.v (.int .i64 (l.length:Nat))),(3,.loc (.t 3 0) 0 0),(9,.v (.int .i64 ((0:Nat):Int)))],[(.t 3 0,.arr 1 [] false)]⟩ Y J ht ?_ λa w3 S3 ρ3 κ3 J=>?_)
 .simp -dsimp only[go_sem,O,cC]
  try simp[Vs.LeL,Vs.look,aA]
 refine At.block ?_
 let T:Nat->List Value->St:=λi ss=>⟨[(7,.sl 1 (E cC l)),(8,.v (.int .i64 (l.length:Nat))),(3,.loc (.t 3 0) 0 ss.length),(9,.v (.int .i64 (i:Int)))],[(.t 3 0,.arr 1 (ss.map (λs=>[AV.v s])) false)]⟩
 let I:Nat->Act->World->Prop:=λn a w=>∃(i:Nat) (ss:List Value) (D:Nat->Prop) (C:Ctx) (S:Nat->Prop) (ρ:Vs.Name->Option Nat) (κ:Vs.Name->Nat),n=l.length-i∧i<=l.length∧ss.length=i∧C.nt=C0.nt∧Later C0 C∧OK C (T i ss).f a w S ρ κ∧(∀b,D b->C0.w0.heap.size<=b)∧Hid C D (.tup ((l.take i).map λr=>.sl 1 (E cI r))) (.tuple ss.toArray)∧∃xs cs,mD C.S0 C.w0 1 ((l.take i).map (E cI)) ss xs cs∧∀j b,j<ss.length->xs j=some b->D b
 refine At.loop I (λn a w hI=>?_) (n:=l.length) ?_
 rotate_left
 .refine⟨0,[],λ_=>False,C0.anew w3 S3 _ ρ3,S3,ρ3,κ3,by omega,by omega,rfl,rfl,J.later,?_,λb H=>H.elim,⟨.tup _ _ rfl (by simp),λb H=>H.elim,λb H=>H.elim⟩,λ_=>none,λ_=>0,⟨rfl,by simp,by simp⟩,by simp⟩;have e:T 0 []=⟨[(7,.sl 1 (E cC l)),(8,.v (.int .i64 (l.length:Nat))),(3,.loc (.t 3 0) 0 0),(9,.v (.int .i64 ((0:Nat):Int)))],[(.t 3 0,.arr 1 [] false)]⟩:=by simp[T]
  rw[e];exact J.anew
 obtain⟨i,ss,D,C,S,ρ,κ,hn,hi,ho,h8,hy,J,hD,hh,xs,cs,h4,hf⟩:=hI;have U:C.nt=Tryz.f103.ntmps:=h8.trans ht;refine At.step ⟨(10,.v (.bool (decide ((i:Int)<(l.length:Nat)))))::(T i ss).s,(T i ss).h⟩ Y J U ?_ λa w S ρ κ J=>?_
 .simp only[T];simp -dsimp only[go_sem,O,cC]
  try simp[Vs.LeL,Vs.look,aA]
 refine At.seq (At.fw Y J U (N:=fun σ'=>LeL σ' (T i ss)∧i<l.length) (E:=λe σ'=>match e with|.exit j=>j=0∧LeL σ' (T i ss)∧i=l.length|.ret=>False) ?_ (λa w hg=>?_) (λj a w hg=>?_) (λa w hg=>hg.no.elim))
 .simp only[T];simp -dsimp only[go_sem,O,cC];refine Br.mk (λhc=>?_) λhc=>?_
  .have ha:i<l.length:=by have:=BJ hc;omega
   try simp -dsimp only[go_sem,O,cC]
   exact⟨by simp[Vs.LeL,Vs.look,aA],ha⟩
  .have qn:i=l.length:=by have:=BQ hc;omega
   try simp -dsimp only[go_sem,O,cC]
   exact⟨by simp[Vs.LeL,Vs.look,aA],qn⟩
 rotate_left
 .-- the loop's end
  obtain⟨σ',S',ρ',κ',⟨rfl,h3,rfl⟩,hm⟩:=hg;have J:=hm.le h3;simp only[Exit.then,Exit.inBlock,Bj];refine At.step ⟨[(2,.loc (.t 3 0) 0 ss.length)],[(.t 3 0,.arr 1 (ss.map λs=>[AV.v s]) false)]⟩ Y J U ?_ λa w4 S4 ρ4 κ4 L=>?_
  .simp only[T]
   try simp -dsimp only[go_sem,O,cC]
   simp[Vs.LeL,Vs.look,aA,ho]
  refine At.ret ⟨.inl rfl,L.defers,?_⟩
  obtain ⟨x,v,hx,h5,qh⟩:=mE L (fn:=Tryz.f103) (K:=λx=>x=.loc (.t 3 0) 0 ss.length) (by
    show dQ Tryz.prog _ _ [_]
    simp[dQ,qX,Vs.look,dU])
  subst hx;have hp:=L.back hy;have h9:=L.graft (n:=.t 3 0) (ss:=ss) (by rfl) hh h5;have qa:(((l.take l.length).map λr=>AV.sl 1 (E cI r)).map λx=>[x])=E cC l:=by simp[E,cC,Cc]
  rw[qa] at h9;refine⟨v,qh,v,_,ss,xs,cs,ρ4 (.t 3 0),rfl,?_,λb H=>?_,?_,h9,λb H=>?_,?_,?_,λb H=>.inr H,λj b hj H=>.inl (hf j b hj H),?_⟩
  .have:=hp.size;rw[hd] at this;exact this
  .have:=hp.old b (by rw[hd];exact H) (by rw[←hl];exact λh=>h);rw[hd] at this;exact this
  .have:=hp.out;rw[hd] at this;exact this
  .rcases H with H|H
   .exact⟨hd ▸ hD b H,(hh.same L).2.1 b H⟩
   .refine⟨?_,L.hok.lt (n:=.t 3 0) (by rfl) H⟩;rcases hp.mine (.t 3 0) b (by rfl) H with h|h
    .exact hd ▸ h
    .rw[←hl] at h;exact h.elim
  .exact L.expose (n:=.t 3 0) (by rfl) (λr hr=>by
     obtain⟨y,_,rfl⟩:=Bq.1 hr;rfl) (by simpa using h5)
  .exact ⟨_,(L.own (n:=.t 3 0) (by rfl) (λr hr=>by
     obtain⟨y,_,rfl⟩:=Bq.1 hr;rfl) (by simpa using h5)).mono (λ_ _ h=>h) λ_ _=>rfl⟩
  .rw[Bv] at h4;refine h4.mono (λj b hj H hs=>?_) λj b hj H=>(hh.same L).1 b (hf j b hj H);have h6:=hf j b hj H;rcases hs with hs|hs
   .have:=hD b h6;rw[hd] at this;omega
   .exact(hh.same L).2.2.2 b h6 (.t 3 0) (by rfl) hs
 obtain⟨σ',S',ρ',κ',⟨h3,ha⟩,hm⟩:=hg;have J:=hm.le h3;have hw:=aG ha hk.1;have hv:(E cC l).getD i []=[.sl 1 (E cI l[i])]:=aN ha;have TC:=aCU l[i] (hk.2 _ (Aa ha));show At Tryz.prog _ _ (.seq _ _) _ a w
 refine At.seq (At.block (At.step ⟨[(5,.ptr (.t 5 0) 0 0),(7,.sl 1 (E cC l)),(8,.v (.int .i64 (l.length:Nat))),(3,.loc (.t 3 0) 0 ss.length),(9,.v (.int .i64 (i:Int)))],[(.t 5 0,.var [.sl 1 (E cI l[i])] false),(.t 3 0,.arr 1 (ss.map (λs=>[AV.v s])) false)]⟩ Y J U ?_ λa w S1 ρ1 κ1 J=>At.naming (At.halt (pre:=[⟨some 13,.mv (.tmp 3),none⟩,⟨some 14,.load true 1 (.tmp 5),none⟩,⟨some 15,.call (.func F.jN) [(.tmp 14)] [],none⟩]) (post:=[⟨some 16,.bslice 1 1 [.v (.slice none 0 0)] [(0,(.tmp 15))],none⟩,⟨some 17,.append 1 24 (.tmp 13) (.tmp 16),none⟩,⟨some 3,.mv (.tmp 17),none⟩]) J U ?_)))
 .simp only[T];simp -dsimp only[go_sem,O,hv,cC,cC]
  first|exact⟨⟨by omega,by omega⟩,by simp[Vs.LeL,Vs.look,aA]⟩
 simp -dsimp only[go_sem,O,hv,cC,cC];refine aB.own TC rfl ?_;simp -dsimp only[go_sem,O,hv,cC,cC];intro a w S2 ρ2 κ2 qb;have qp:(E cI l[i]).length=l[i].length:=aH _
 let σA:St:=⟨[(15,.agg [.loc (.t 15 0) 0 (E cI l[i]).length]),(13,.loc (.t 3 0) 0 ss.length),(7,.sl 1 (E cC l)),(8,.v (.int .i64 (l.length:Nat))),(3,.loc (.t 3 0) 0 ss.length),(9,.v (.int .i64 (i:Int)))],[(.t 15 0,.arr 1 (E cI l[i]) false),(.t 3 0,.arr 1 (ss.map (λs=>[AV.v s])) false)]⟩
 have Z:OK C σA.f a w S2 ρ2 κ2:=qb.le (by simp[σA,Vs.LeL,Vs.look,aA,qp])
 obtain ⟨s,C',hq,qc,qo,⟨sb,sn,sc,rfl⟩,qk,qj,qg⟩:=Z.bury (n:=.t 15 0) (k:=1) (rows:=E cI l[i]) (t:=15) rfl (λr hr=>by
   obtain⟨y,_,rfl⟩:=Bq.1 hr;rfl) rfl hh
 have qm:=Z.back hy;have hu:=(h4.mono (S':=S2) (w':=w) (λj b hj H=>(hh.same Z).2.2.1 b (hf j b hj H)) λj b hj H=>(hh.same Z).1 b (hf j b hj H)).snoc qg (λj b hj H=>(hh.same Z).2.2.2 b (hf j b hj H) (.t 15 0) (by rfl))
 have e3:(l.take i).map (E cI)++[E cI l[i]]=(l.take (i+1)).map (E cI):=by
  rw[Dw ha,Bu];rfl
 rw[e3,←qk,←qj] at hu
 have ql:∀b,(D b∨ρ2 (.t 15 0)=some b)->C0.w0.heap.size<=b:=λb H=>by
  rcases H with H|H
  .exact hD b H
  .rcases qm.mine (.t 15 0) b (by rfl) H with h|h
   .exact h
   .rw[←hl] at h;exact h.elim
 let σB:St:=⟨[(15,.agg [.v (.slice sb sn sc)]),(13,.loc (.t 3 0) 0 ss.length),(7,.sl 1 (E cC l)),(8,.v (.int .i64 (l.length:Nat))),(3,.loc (.t 3 0) 0 ss.length),(9,.v (.int .i64 (i:Int)))],[(.t 3 0,.arr 1 (ss.map (λs=>[AV.v s])) false)]⟩
 have qf:OK C' σB.f a w S2 ρ2 κ2:=qc.le (by simp[σA,σB,bW,Vs.LeL,Vs.look,aA,Vs.scr,rF,Vs.AV.has,nZ,Vs.Blk.has]);have h7:(ss.map λs=>[AV.v s])++[[AV.v (.slice sb sn sc)]]=(ss++[Value.slice sb sn sc]).map λs=>[AV.v s]:=by simp
 have qi:(ss.map λs=>[AV.v s]).length=ss.length:=by simp
 have qr:=hk.1
 let τ:St:=⟨[(7,.sl 1 (E cC l)),(8,.v (.int .i64 (l.length:Nat))),(3,.loc (.t 17 0) 0 (i+1)),(9,.v (.int .i64 (i:Int)))],[(.t 17 0,.arr 1 ((ss++[Value.slice sb sn sc]).map (λs=>[AV.v s])) false)]⟩
 refine⟨C',σB,S2,ρ2,κ2,fun σ'=>LeL σ' τ,hq.nt.trans U,qf,?_,λa w hg=>?_⟩
 .simp only[σB,τ];simp -dsimp only[go_sem,O,h7,qi,hw,cC]
  and_intros
  all_goals first|omega|(simp[Vs.LeL,Vs.look,aA,ho];done)|(simp[Vs.LeL,Vs.look,aA,ho];omega)
 obtain⟨S4,ρ4,κ4,L⟩:=hg.le;obtain⟨ρ5,κ5,qd⟩:=L.nN (n:=.t 17 0) (m:=.t 3 0) (by decide) (by rfl);show At Tryz.prog _ _ (.region _ _ _) _ a w
 refine At.fw Y qd (hq.nt.trans U) (N:=fun σ'=>LeL σ' (T (i+1) (ss++[Value.slice sb sn sc]))) (E:=λ_ _=>False) ?_ (λa w hg=>?_) (λj a w hg=>hg.no.elim) (λa w hg=>hg.no.elim)
 .simp only[τ,T,nN];simp -dsimp only[go_sem,O,h7,qi,hw,cC]
  first|(simp[Vs.LeL,Vs.look,aA,hw,ho];done)
 obtain⟨S6,ρ6,κ6,qe⟩:=hg.le;refine⟨l.length-(i+1),by omega,i+1,ss++[Value.slice sb sn sc],_,C',S6,ρ6,κ6,rfl,by omega,by simp[ho],hq.nt.trans h8,hy.trans hq,qe,ql,?_,_,_,hu,?_⟩
 .rw[Dw ha,Bu];exact qo
 .intro j b hj H;simp only[AQ,Cf] at hj;split at H
  .exact .inr H
  .exact .inl (hf j b (by omega) H)
end
end Go.Proofs.YtkgeiaideklmoaaGreat
