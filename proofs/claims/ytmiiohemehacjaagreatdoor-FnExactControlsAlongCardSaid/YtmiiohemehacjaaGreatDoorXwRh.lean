/- A deck is copied by the program into new memory, all of it. -/
import Derived.Test.YtmiiohemehacjaaGreatDoorXwD
import Derived.Test.YtmiiohemehacjaaGreatDoorVtR
import Derived.Test.YtmiiohemehacjaaGreatDoorVtZ
import Derived.Test.YtmiiohemehacjaaGreatDoorXwK
set_option linter.all false
set_option maxHeartbeats 8000000
namespace Go.Proofs.YtmiiohemehacjaaGreatDoor
open Go.Vs
section
variable [Vs.Envs]
attribute [local irreducible] Vs.Fn
theorem aLq (x:List Int) (I:x.length<=1048576):Vs.Fn Tryz.prog F.mR [] [.agg (cC x)] (.agg [.loc (.b 0) 0 x.length]) [some (.arr 1 (E cI x) false)]:=by
 have H:Vs.Fn Tryz.prog F.nQ [] [.sl 1 (E cI x)] (.loc (.b 0) 0 x.length) [some (.arr 1 (E cI x) false)]:=aLo Tryz.mixed Cd.l_toInt64S_k.o Cd.l_toInt64S_k.n Cd.l_toInt64S_k.r rfl I;refine fn1 Cd.l_toCard_k [.t 6 0] [.arr 1 (E cI x) false] λX=>?_;unfold Cd.mR
 repeat' first|simp -dsimp only[go_sem,cC,Int.reduceBEq,Int.reduceBNe,cC,aI,List.replicate_succ,List.replicate_zero,List.flatten_cons,List.flatten_nil,List.cons_append,List.nil_append,List.set_cons_zero,List.set_cons_succ,List.length_cons,List.length_nil,List.length_set,List.mem_singleton,List.mem_cons,List.not_mem_nil,or_false,false_or,Vs.Name.t.injEq,List.getD_cons_zero,List.getD_cons_succ,Vs.Name.b.injEq,List.getElem?_cons_zero,List.getElem?_cons_succ]|apply Br.mk<;>intro h<;>try simp -dsimp only[h]|refine aD.own (by first|exact H) rfl ?_|refine aC ?_|fail
 all_goals first|omega|exact⟨_,_,rfl,rfl⟩
attribute [local go_sem] Int.reduceBEq Int.reduceBNe aI List.replicate_succ List.replicate_zero List.flatten_cons List.flatten_nil List.cons_append List.nil_append List.set_cons_zero List.set_cons_succ List.length_cons List.length_nil List.length_set List.mem_singleton List.mem_cons List.not_mem_nil or_false false_or Vs.Name.t.injEq List.getD_cons_zero List.getD_cons_succ Vs.Name.b.injEq List.getElem?_cons_zero List.getElem?_cons_succ in
theorem aE7 (l:List (List Int)) (hk:bJ l) {S:Nat->Prop}{w:World}{v0:Value} (hS:∀b,S b->b<w.heap.size) (he:Env S w) (h0:RC S w (.sl 1 (E cC l)) v0) :
  Calls Tryz.prog F.jC #[v0] w λe w'=>∃v D ss xs cs x0,e=.returned v∧w.heap.size<=w'.heap.size∧(∀b,b<w.heap.size->w'.heap[b]? = w.heap[b]?)∧(w'.os=w.os∧w'.output=w.output)∧RC D w' (.sl 1 (E cC l)) v∧(∀b,D b->w.heap.size<=b∧b<w'.heap.size)∧RC (λb=>x0=some b) w' (.sl 1 (ss.map λs=>[AV.v s])) v∧(∀b,x0=some b->D b)∧(∀i b,i<ss.length->xs i=some b->D b)∧Vs.wQ (λb=>b<w.heap.size∨x0=some b) w' 1 (l.map (E cI)) ss xs cs:=by
 obtain⟨h1,h2,_⟩:=Cd.l_toCardS_k.o;obtain⟨qr,H,hc⟩:=Option.bind_eq_some_iff.1 h2;have hz:(Tryz.f71.body.map (zB Tryz.f71.ntmps (bG Tryz.prog)))=some true:=by kernel_rfl
 rw[H] at hz;have hl:=bZ Tryz.mixed;refine yC (dr:=bG Tryz.prog) (ac:=Cd.jC) h1 H hc (by simpa using hz) (args:=[.sl 1 (E cC l)]) (by rw[Cd.l_toCardS_k.n];exact Nat.le_of_ble_eq_true rfl) hS he rfl (λj Z=>?_) (λ_=>False) λa J=>?_
 .match j,Z with
  |0,_=>exact h0
 generalize ho:(⟨Tryz.f71.ntmps,w,S,λ_=>False,λ_=>none,λ_=>0,λ_=>none⟩:Ctx)=C0 at J;have hu:C0.nt=Tryz.f71.ntmps:=by rw[←ho]
 have hd:C0.w0=w:=by rw[←ho]
 have O:(E cC l).length=l.length:=aI _;unfold Cd.jC;refine At.step ⟨[(0,.sl 1 (E cC l))],[]⟩ hl J hu ?_ λa w1 S1 ρ1 κ1 J=>?_
 .simp -dsimp only[go_sem,O,cC]
  try simp[Vs.LeL,Vs.look,Vs.aB]
 refine At.step ⟨[(0,.sl 1 (E cC l)),(3,.loc (.t 7 0) 0 l.length)],[(.t 7 0,.arr 1 (List.replicate l.length [.v (.slice none 0 0)]) false)]⟩ hl J hu ?_ λa w2 S2 ρ2 κ2 J=>?_
 .simp -dsimp only[go_sem,O,cC];have qp:(l.length:Int)*((24:Nat):Int)<=2 ^ 47:=by have:=hk.1;omega
  exact⟨⟨by omega,qp,by have:=hk.1;omega⟩,by simp[Vs.LeL,Vs.look,Vs.aB]⟩
 refine At.seq (At.step ⟨[(0,.sl 1 (E cC l)),(3,.loc (.t 7 0) 0 l.length),(4,.v (.int .i64 ((0:Nat):Int)))],[(.t 7 0,.arr 1 (List.replicate l.length [.v (.slice none 0 0)]) false)]⟩ hl J hu ?_ λa w3 S3 ρ3 κ3 J=>?_)
 .simp -dsimp only[go_sem,O,cC]
  try simp[Vs.LeL,Vs.look,Vs.aB]
 refine At.block ?_
 let T:Nat->List Value->St:=λi ss=>⟨[(0,.sl 1 (E cC l)),(3,.loc (.t 7 0) 0 l.length),(4,.v (.int .i64 (i:Int)))],[(.t 7 0,.arr 1 (ss.map (λs=>[AV.v s])++List.replicate (l.length-i) [.v (.slice none 0 0)]) false)]⟩
 let I:Nat->Act->World->Prop:=λn a w=>∃(i:Nat) (ss:List Value) (D:Nat->Prop) (C:Ctx) (S:Nat->Prop) (ρ:Vs.Name->Option Nat) (κ:Vs.Name->Nat),n=l.length-i∧i<=l.length∧ss.length=i∧C.nt=C0.nt∧Later C0 C∧OK C (T i ss).f a w S ρ κ∧(∀b,D b->C0.w0.heap.size<=b)∧Hid C D (.tup ((l.take i).map λr=>.sl 1 (E cI r))) (.tuple ss.toArray)∧∃xs cs,Vs.wQ C.S0 C.w0 1 ((l.take i).map (E cI)) ss xs cs∧∀j b,j<ss.length->xs j=some b->D b
 refine At.loop I (λn a w hI=>?_) (n:=l.length) ?_
 rotate_left
 .refine⟨0,[],λ_=>False,C0.anew w3 S3 _ ρ3,S3,ρ3,κ3,by omega,by omega,rfl,rfl,J.later,?_,λb H=>H.elim,⟨.tup _ _ rfl (by simp),λb H=>H.elim,λb H=>H.elim⟩,λ_=>none,λ_=>0,⟨rfl,by simp,by simp⟩,by simp⟩;have e:T 0 []=⟨[(0,.sl 1 (E cC l)),(3,.loc (.t 7 0) 0 l.length),(4,.v (.int .i64 ((0:Nat):Int)))],[(.t 7 0,.arr 1 (List.replicate l.length [.v (.slice none 0 0)]) false)]⟩:=by simp[T]
  rw[e];exact J.anew
 obtain⟨i,ss,D,C,S,ρ,κ,hn,hi,hm,h6,hy,J,hD,hh,xs,cs,h4,hf⟩:=hI;have U:C.nt=Tryz.f71.ntmps:=h6.trans hu;refine At.seq (At.fw hl J U (N:=fun σ'=>LeL σ' (T i ss)∧i<l.length) (E:=λe σ'=>match e with|.exit j=>j=0∧LeL σ' (T i ss)∧i=l.length|.ret=>False) ?_ (λa w hg=>?_) (λj a w hg=>?_) (λa w hg=>hg.no.elim))
 .simp only[T];simp -dsimp only[go_sem,O,cC];refine Br.mk (λhc=>?_) λhc=>?_
  .have ha:i<l.length:=by have:=of_decide_eq_true hc;omega
   try simp -dsimp only[go_sem,O,cC]
   exact⟨by simp[Vs.LeL,Vs.look,Vs.aB],ha⟩
  .have qn:i=l.length:=by have:=of_decide_eq_false hc;omega
   try simp -dsimp only[go_sem,O,cC]
   exact⟨by simp[Vs.LeL,Vs.look,Vs.aB],qn⟩
 rotate_left
 .-- the loop's end
  obtain⟨σ',S',ρ',κ',⟨rfl,h3,rfl⟩,hp⟩:=hg;have J:=hp.le h3;simp only[Exit.then,Exit.inBlock,if_true];refine At.step ⟨[(2,.loc (.t 7 0) 0 ss.length)],[(.t 7 0,.arr 1 (ss.map λs=>[AV.v s]) false)]⟩ hl J U ?_ λa w4 S4 ρ4 κ4 L=>?_
  .simp only[T]
   try simp -dsimp only[go_sem,O,cC]
   simp[Vs.LeL,Vs.look,Vs.aB,hm]
  refine At.ret ⟨.inl rfl,L.defers,?_⟩
  obtain ⟨x,v,hx,qi,qh⟩:=Vs.tL L (fn:=Tryz.f71) (K:=λx=>x=.loc (.t 7 0) 0 ss.length) (by
    show Vs.uE Tryz.prog _ _ [_]
    simp[Vs.uE,Vs.aDu,Vs.look,Vs.uZ])
  subst hx;have hq:=L.back hy;have h8:=L.graft (n:=.t 7 0) (ss:=ss) (by rfl) hh qi;have qa:(((l.take l.length).map λr=>AV.sl 1 (E cI r)).map λx=>[x])=E cC l:=by simp[E,cC,List.map_map]
  rw[qa] at h8;refine⟨v,qh,v,_,ss,xs,cs,ρ4 (.t 7 0),rfl,?_,λb H=>?_,?_,h8,λb H=>?_,?_,λb H=>.inr H,λj b Z H=>.inl (hf j b Z H),?_⟩
  .have:=hq.size;rw[hd] at this;exact this
  .have:=hq.old b (by rw[hd];exact H) (by rw[←ho];exact λh=>h);rw[hd] at this;exact this
  .have:=hq.out;rw[hd] at this;exact this
  .rcases H with H|H
   .exact⟨hd ▸ hD b H,(hh.same L).2.1 b H⟩
   .refine⟨?_,L.hok.lt (n:=.t 7 0) (by rfl) H⟩;rcases hq.mine (.t 7 0) b (by rfl) H with h|h
    .exact hd ▸ h
    .rw[←ho] at h;exact h.elim
  .exact L.expose (n:=.t 7 0) (by rfl) (λr hr=>by
     obtain⟨y,_,rfl⟩:=List.mem_map.1 hr;rfl) (by simpa using qi)
  .rw[List.take_length] at h4;refine h4.mono (λj b Z H hs=>?_) λj b Z H=>(hh.same L).1 b (hf j b Z H);have h5:=hf j b Z H;rcases hs with hs|hs
   .have:=hD b h5;rw[hd] at this;omega
   .exact(hh.same L).2.2.2 b h5 (.t 7 0) (by rfl) hs
 obtain⟨σ',S',ρ',κ',⟨h3,ha⟩,hp⟩:=hg;have J:=hp.le h3;have hw:=aH ha hk.1;have h9:(E cC l).getD i []=[.sl 1 (E cI l[i])]:=aQ ha;have TC:=aLq l[i] (hk.2 _ (List.getElem_mem ha));show At Tryz.prog _ _ (.seq _ _) _ a w
 refine At.seq (At.block (At.halt (pre:=[⟨some 14,.mv (.tmp 3),none⟩,⟨some 15,.mv (.tmp 4),none⟩,⟨some 16,.mv (.tmp 0),none⟩,⟨some 17,.mv (.tmp 4),none⟩,⟨some 18,.idxSl 1 (.tmp 16) (.tmp 17),none⟩,⟨some 19,.load true 1 (.tmp 18),none⟩,⟨some 20,.call (.func F.mR) [(.tmp 19)] [],none⟩]) (post:=[⟨some 21,.idxSl 1 (.tmp 14) (.tmp 15),none⟩,⟨none,.store 1 (.tmp 21) (.tmp 20),none⟩]) J U ?_));simp only[T];simp -dsimp only[go_sem,O,h9,cC,cC];refine⟨⟨by omega,by omega⟩,?_⟩;refine aD.own TC rfl ?_;simp -dsimp only[go_sem,O,h9,cC,cC];intro a w S2 ρ2 κ2 qb;have qq:(E cI l[i]).length=l[i].length:=aI _
 let σA:St:=⟨[(20,.agg [.loc (.t 20 0) 0 (E cI l[i]).length]),(15,.v (.int .i64 (i:Int))),(14,.loc (.t 7 0) 0 l.length),(0,.sl 1 (E cC l)),(3,.loc (.t 7 0) 0 l.length),(4,.v (.int .i64 (i:Int)))],[(.t 20 0,.arr 1 (E cI l[i]) false),(.t 7 0,.arr 1 (ss.map (λs=>[AV.v s])++List.replicate (l.length-i) [.v (.slice none 0 0)]) false)]⟩
 have Y:OK C σA.f a w S2 ρ2 κ2:=qb.le (by simp[σA,Vs.LeL,Vs.look,Vs.aB,qq])
 obtain ⟨s,C',ht,qc,qo,⟨sb,sn,sc,rfl⟩,qk,qj,qg⟩:=Y.bury (n:=.t 20 0) (k:=1) (rows:=E cI l[i]) (t:=20) rfl (λr hr=>by
   obtain⟨y,_,rfl⟩:=List.mem_map.1 hr;rfl) rfl hh
 have qm:=Y.back hy;have hv:=(h4.mono (S':=S2) (w':=w) (λj b Z H=>(hh.same Y).2.2.1 b (hf j b Z H)) λj b Z H=>(hh.same Y).1 b (hf j b Z H)).snoc qg (λj b Z H=>(hh.same Y).2.2.2 b (hf j b Z H) (.t 20 0) (by rfl))
 have e3:(l.take i).map (E cI)++[E cI l[i]]=(l.take (i+1)).map (E cI):=by
  rw[List.take_succ_eq_append_getElem ha,List.map_append];rfl
 rw[e3,←qk,←qj] at hv
 have ql:∀b,(D b∨ρ2 (.t 20 0)=some b)->C0.w0.heap.size<=b:=λb H=>by
  rcases H with H|H
  .exact hD b H
  .rcases qm.mine (.t 20 0) b (by rfl) H with h|h
   .exact h
   .rw[←ho] at h;exact h.elim
 let σB:St:=⟨[(20,.agg [.v (.slice sb sn sc)]),(15,.v (.int .i64 (i:Int))),(14,.loc (.t 7 0) 0 l.length),(0,.sl 1 (E cC l)),(3,.loc (.t 7 0) 0 l.length),(4,.v (.int .i64 (i:Int)))],[(.t 7 0,.arr 1 (ss.map (λs=>[AV.v s])++List.replicate (l.length-i) [.v (.slice none 0 0)]) false)]⟩
 have qf:OK C' σB.f a w S2 ρ2 κ2:=qc.le (by simp[σA,σB,Vs.eU,Vs.LeL,Vs.look,Vs.aB,Vs.scr,Vs.aA3,Vs.AV.has,Vs.oD,Vs.Blk.has])
 have hset:((ss.map λs=>[AV.v s])++List.replicate (l.length-i) [AV.v (.slice none 0 0)]).set i [.v (.slice sb sn sc)]=((ss++[Value.slice sb sn sc]).map λs=>[AV.v s])++List.replicate (l.length-(i+1)) [AV.v (.slice none 0 0)]:=by
  have e:l.length-i=(l.length-(i+1))+1:=by omega
  rw[e,List.replicate_succ,List.set_append_right _ _ (by simp[hm])];simp[hm]
 have qs:((ss.map λs=>[AV.v s])++List.replicate (l.length-i) [AV.v (.slice none 0 0)]).length=l.length:=by simp[hm];omega
 have h7:((ss.map λs=>[AV.v s])++List.replicate (l.length-i) [AV.v (.slice none 0 0)]).getD i []=[AV.v (.slice none 0 0)]:=by
  have:0<l.length-i:=by omega
  simp[List.getElem?_append_right,hm,this]
 refine⟨C',σB,S2,ρ2,κ2,fun σ'=>LeL σ' ⟨[(0,.sl 1 (E cC l)),(3,.loc (.t 7 0) 0 l.length),(4,.v (.int .i64 (i:Int)))],[(.t 7 0,.arr 1 ((ss++[Value.slice sb sn sc]).map (λs=>[AV.v s])++List.replicate (l.length-(i+1)) [.v (.slice none 0 0)]) false)]⟩,ht.nt.trans U,qf,?_,λa w hg=>?_⟩
 .simp only[σB];simp -dsimp only[go_sem,O,cC];refine⟨⟨by omega,by omega⟩,by rw[h7];exact Nat.le_refl _,?_⟩;rw[h7];simp only[List.set_cons_zero];rw[hset];simp[Vs.LeL,Vs.look,Vs.aB]
 obtain⟨S5,ρ5,κ5,qd⟩:=hg.le;show At Tryz.prog _ _ (.region _ _ _) _ a w
 refine At.fw hl qd (ht.nt.trans U) (N:=fun σ'=>LeL σ' (T (i+1) (ss++[Value.slice sb sn sc]))) (E:=λ_ _=>False) ?_ (λa w hg=>?_) (λj a w hg=>hg.no.elim) (λa w hg=>hg.no.elim)
 .simp -dsimp only[go_sem,O,cC];simp[T,Vs.LeL,Vs.look,Vs.aB,hw]
 obtain⟨S6,ρ6,κ6,qe⟩:=hg.le;refine⟨l.length-(i+1),by omega,i+1,ss++[Value.slice sb sn sc],_,C',S6,ρ6,κ6,rfl,by omega,by simp[hm],ht.nt.trans h6,hy.trans ht,qe,ql,?_,_,_,hv,?_⟩
 .rw[List.take_succ_eq_append_getElem ha,List.map_append];exact qo
 .intro j b Z H;simp only[List.length_append,List.length_singleton] at Z;split at H
  .exact .inr H
  .exact .inl (hf j b (by omega) H)
end
section
variable [Vs.Envs]
attribute [local irreducible] Vs.Fn
theorem At.naming {P:Program}{nt:Nat}{dr:Nat->Array Oper->Option (List Nat)}{n:Nat}{x:aF}{Q:Exit->Act->World->Prop}{a:Act}{w:World} (h:At P nt dr x Q a w):At P nt dr (.naming n x) Q a w:=h
end
end Go.Proofs.YtmiiohemehacjaaGreatDoor
