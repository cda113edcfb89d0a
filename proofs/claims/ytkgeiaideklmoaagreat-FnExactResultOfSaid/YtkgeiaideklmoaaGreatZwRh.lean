/- A deck is copied by the program into new memory, all of it. -/
import Derived.Test.YtkgeiaideklmoaaGreatZwSh
import Derived.Test.YtkgeiaideklmoaaGreatVtR
import Derived.Test.YtkgeiaideklmoaaGreatVtZ
import Derived.Test.YtkgeiaideklmoaaGreatZwK
set_option linter.all false
set_option maxHeartbeats 8000000
namespace Go.Proofs.YtkgeiaideklmoaaGreat
open Go.Vs
section
variable [Vs.Envs]
attribute [local irreducible] Vs.Fn
theorem aJU (x:List Int) (H:x.length≤1048576):Vs.Fn Tryz.prog F.mO [] [.agg (cC x)] (.agg [.loc (.b 0) 0 x.length]) [some (.arr 1 (E cI x) false)]:=by
 have G:Vs.Fn Tryz.prog F.nO [] [.sl 1 (E cI x)] (.loc (.b 0) 0 x.length) [some (.arr 1 (E cI x) false)]:=aJS Tryz.mixed Cd.l_toInt64S_k.o Cd.l_toInt64S_k.n Cd.l_toInt64S_k.r rfl H;refine fn1 Cd.l_toCard_k [.t 6 0] [.arr 1 (E cI x) false] fun X=>?_;unfold Cd.mO
 repeat' first|simp -dsimp only[go_sem,cC,Int.reduceBEq,Int.reduceBNe,cC,aI,List.replicate_succ,List.replicate_zero,List.flatten_cons,List.flatten_nil,List.cons_append,List.nil_append,List.set_cons_zero,List.set_cons_succ,List.length_cons,List.length_nil,List.length_set,List.mem_singleton,List.mem_cons,List.not_mem_nil,or_false,false_or,Vs.Name.t.injEq,List.getD_cons_zero,List.getD_cons_succ,Vs.Name.b.injEq,List.getElem?_cons_zero,List.getElem?_cons_succ]|apply Br.mk<;>intro h<;>try simp -dsimp only[h]|refine aD.own (by first|exact G) rfl ?_|refine aC ?_|fail
 all_goals first|omega|exact⟨_,_,rfl,rfl⟩
attribute [local go_sem] Int.reduceBEq Int.reduceBNe aI List.replicate_succ List.replicate_zero List.flatten_cons List.flatten_nil List.cons_append List.nil_append List.set_cons_zero List.set_cons_succ List.length_cons List.length_nil List.length_set List.mem_singleton List.mem_cons List.not_mem_nil or_false false_or Vs.Name.t.injEq List.getD_cons_zero List.getD_cons_succ Vs.Name.b.injEq List.getElem?_cons_zero List.getElem?_cons_succ in
theorem aD4 (l:List (List Int)) (hk:aU l) {S:Nat→Prop}{w:World}{v0:Value} (hS:∀b,S b→b<w.heap.size) (he:Env S w) (h0:RC S w (.sl 1 (E cC l)) v0) :
  Calls Tryz.prog F.gF #[v0] w fun e w'=>∃v D ss xs cs x0,e=.returned v∧w.heap.size≤w'.heap.size∧(∀b,b<w.heap.size→w'.heap[b]? = w.heap[b]?)∧(w'.os=w.os∧w'.output=w.output)∧RC D w' (.sl 1 (E cC l)) v∧(∀b,D b→w.heap.size≤b∧b<w'.heap.size)∧RC (fun b=>x0=some b) w' (.sl 1 (ss.map fun s=>[AV.v s])) v∧(∀b,x0=some b→D b)∧(∀i b,i<ss.length→xs i=some b→D b)∧Vs.pM (fun b=>b<w.heap.size∨x0=some b) w' 1 (l.map (E cI)) ss xs cs:=by
 obtain⟨h1,h2,_⟩:=Cd.l_toCardS_k.o;obtain⟨qq,G,hc⟩:=Option.bind_eq_some_iff.1 h2;have hz:(Tryz.f10.body.map (zB Tryz.f10.ntmps (bE Tryz.prog)))=some true:=by kernel_rfl
 rw[G] at hz;have hf:=dB Tryz.mixed;refine aAp (dr:=bE Tryz.prog) (ac:=Cd.gF) h1 G hc (by simpa using hz) (args:=[.sl 1 (E cC l)]) (by rw[Cd.l_toCardS_k.n];exact Nat.le_of_ble_eq_true rfl) hS he rfl (fun j U=>?_) (fun _=>False) fun a H=>?_
 ·match j,U with
  |0,_=>exact h0
 generalize hm:(⟨Tryz.f10.ntmps,w,S,fun _=>False,fun _=>none,fun _=>0,fun _=>none⟩:Ctx)=C0 at H;have ht:C0.nt=Tryz.f10.ntmps:=by rw[←hm]
 have ha:C0.w0=w:=by rw[←hm]
 have L:(E cC l).length=l.length:=aI _;unfold Cd.gF;refine At.step ⟨[(0,.sl 1 (E cC l))],[]⟩ hf H ht ?_ fun a w1 S1 ρ1 κ1 H=>?_
 ·simp -dsimp only[go_sem,L,cC]
  try simp[Vs.LeL,Vs.look,Vs.aB]
 refine At.step ⟨[(0,.sl 1 (E cC l)),(3,.loc (.t 7 0) 0 l.length)],[(.t 7 0,.arr 1 (List.replicate l.length [.v (.slice none 0 0)]) false)]⟩ hf H ht ?_ fun a w2 S2 ρ2 κ2 H=>?_
 ·simp -dsimp only[go_sem,L,cC];have qo:(l.length:Int)*((24:Nat):Int)≤2 ^ 47:=by have:=hk.1;omega
  exact⟨⟨by omega,qo,by have:=hk.1;omega⟩,by simp[Vs.LeL,Vs.look,Vs.aB]⟩
 refine At.seq (At.step ⟨[(0,.sl 1 (E cC l)),(3,.loc (.t 7 0) 0 l.length),(4,.v (.int .i64 ((0:Nat):Int)))],[(.t 7 0,.arr 1 (List.replicate l.length [.v (.slice none 0 0)]) false)]⟩ hf H ht ?_ fun a w3 S3 ρ3 κ3 H=>?_)
 ·simp -dsimp only[go_sem,L,cC]
  try simp[Vs.LeL,Vs.look,Vs.aB]
 refine At.block ?_
 let T:Nat→List Value→St:=fun i ss=>⟨[(0,.sl 1 (E cC l)),(3,.loc (.t 7 0) 0 l.length),(4,.v (.int .i64 (i:Int)))],[(.t 7 0,.arr 1 (ss.map (fun s=>[AV.v s])++List.replicate (l.length-i) [.v (.slice none 0 0)]) false)]⟩
 let I:Nat→Act→World→Prop:=fun n a w=>∃(i:Nat) (ss:List Value) (D:Nat→Prop) (C:Ctx) (S:Nat→Prop) (ρ:Vs.Name→Option Nat) (κ:Vs.Name→Nat),n=l.length-i∧i≤l.length∧ss.length=i∧C.nt=C0.nt∧Later C0 C∧OK C (T i ss).f a w S ρ κ∧(∀b,D b→C0.w0.heap.size≤b)∧Hid C D (.tup ((l.take i).map fun r=>.sl 1 (E cI r))) (.tuple ss.toArray)∧∃xs cs,Vs.pM C.S0 C.w0 1 ((l.take i).map (E cI)) ss xs cs∧∀j b,j<ss.length→xs j=some b→D b
 refine At.loop I (fun n a w hI=>?_) (n:=l.length) ?_
 rotate_left
 ·refine⟨0,[],fun _=>False,C0.anew w3 S3 _ ρ3,S3,ρ3,κ3,by omega,by omega,rfl,rfl,H.later,?_,fun b G=>G.elim,⟨.tup _ _ rfl (by simp),fun b G=>G.elim,fun b G=>G.elim⟩,fun _=>none,fun _=>0,⟨rfl,by simp,by simp⟩,by simp⟩;have e:T 0 []=⟨[(0,.sl 1 (E cC l)),(3,.loc (.t 7 0) 0 l.length),(4,.v (.int .i64 ((0:Nat):Int)))],[(.t 7 0,.arr 1 (List.replicate l.length [.v (.slice none 0 0)]) false)]⟩:=by simp[T]
  rw[e];exact H.anew
 obtain⟨i,ss,D,C,S,ρ,κ,hn,hi,hl,h5,hv,H,hD,hh,xs,cs,h3,hd⟩:=hI;have M:C.nt=Tryz.f10.ntmps:=h5.trans ht;refine At.seq (At.fw hf H M (N:=fun σ'=>LeL σ' (T i ss)∧i<l.length) (E:=fun e σ'=>match e with|.exit j=>j=0∧LeL σ' (T i ss)∧i=l.length|.ret=>False) ?_ (fun a w hg=>?_) (fun j a w hg=>?_) (fun a w hg=>hg.no.elim))
 ·simp only[T];simp -dsimp only[go_sem,L,cC];refine Br.mk (fun hc=>?_) fun hc=>?_
  ·have Y:i<l.length:=by have:=of_decide_eq_true hc;omega
   try simp -dsimp only[go_sem,L,cC]
   exact⟨by simp[Vs.LeL,Vs.look,Vs.aB],Y⟩
  ·have qm:i=l.length:=by have:=of_decide_eq_false hc;omega
   try simp -dsimp only[go_sem,L,cC]
   exact⟨by simp[Vs.LeL,Vs.look,Vs.aB],qm⟩
 rotate_left
 ·-- the loop's end
  obtain⟨σ',S',ρ',κ',⟨rfl,hy,rfl⟩,ho⟩:=hg;have H:=ho.le hy;simp only[Exit.then,Exit.inBlock,if_true];refine At.step ⟨[(2,.loc (.t 7 0) 0 ss.length)],[(.t 7 0,.arr 1 (ss.map fun s=>[AV.v s]) false)]⟩ hf H M ?_ fun a w4 S4 ρ4 κ4 J=>?_
  ·simp only[T]
   try simp -dsimp only[go_sem,L,cC]
   simp[Vs.LeL,Vs.look,Vs.aB,hl]
  refine At.ret ⟨.inl rfl,J.defers,?_⟩
  obtain ⟨x,v,hx,qh,qg⟩:=Vs.uR J (fn:=Tryz.f10) (K:=fun x=>x=.loc (.t 7 0) 0 ss.length) (by
    show Vs.rR Tryz.prog _ _ [_]
    simp[Vs.rR,Vs.aEq,Vs.look,Vs.oJ])
  subst hx;have hp:=J.back hv;have h7:=J.graft (n:=.t 7 0) (ss:=ss) (by rfl) hh qh;have h9:(((l.take l.length).map fun r=>AV.sl 1 (E cI r)).map fun x=>[x])=E cC l:=by simp[E,cC,List.map_map]
  rw[h9] at h7;refine⟨v,qg,v,_,ss,xs,cs,ρ4 (.t 7 0),rfl,?_,fun b G=>?_,?_,h7,fun b G=>?_,?_,fun b G=>.inr G,fun j b U G=>.inl (hd j b U G),?_⟩
  ·have:=hp.size;rw[ha] at this;exact this
  ·have:=hp.old b (by rw[ha];exact G) (by rw[←hm];exact fun h=>h);rw[ha] at this;exact this
  ·have:=hp.out;rw[ha] at this;exact this
  ·rcases G with G|G
   ·exact⟨ha ▸ hD b G,(hh.same J).2.1 b G⟩
   ·refine⟨?_,J.hok.lt (n:=.t 7 0) (by rfl) G⟩;rcases hp.mine (.t 7 0) b (by rfl) G with h|h
    ·exact ha ▸ h
    ·rw[←hm] at h;exact h.elim
  ·exact J.expose (n:=.t 7 0) (by rfl) (fun r hr=>by
     obtain⟨y,_,rfl⟩:=List.mem_map.1 hr;rfl) (by simpa using qh)
  ·rw[List.take_length] at h3;refine h3.mono (fun j b U G hs=>?_) fun j b U G=>(hh.same J).1 b (hd j b U G);have h4:=hd j b U G;rcases hs with hs|hs
   ·have:=hD b h4;rw[ha] at this;omega
   ·exact(hh.same J).2.2.2 b h4 (.t 7 0) (by rfl) hs
 obtain⟨σ',S',ρ',κ',⟨hy,Y⟩,ho⟩:=hg;have H:=ho.le hy;have hw:=aH Y hk.1;have h8:(E cC l).getD i []=[.sl 1 (E cI l[i])]:=aS Y;have TC:=aJU l[i] (hk.2 _ (List.getElem_mem Y));show At Tryz.prog _ _ (.seq _ _) _ a w
 refine At.seq (At.block (At.halt (pre:=[⟨some 14,.mv (.tmp 3),none⟩,⟨some 15,.mv (.tmp 4),none⟩,⟨some 16,.mv (.tmp 0),none⟩,⟨some 17,.mv (.tmp 4),none⟩,⟨some 18,.idxSl 1 (.tmp 16) (.tmp 17),none⟩,⟨some 19,.load true 1 (.tmp 18),none⟩,⟨some 20,.call (.func F.mO) [(.tmp 19)] [],none⟩]) (post:=[⟨some 21,.idxSl 1 (.tmp 14) (.tmp 15),none⟩,⟨none,.store 1 (.tmp 21) (.tmp 20),none⟩]) H M ?_));simp only[T];simp -dsimp only[go_sem,L,h8,cC,cC];refine⟨⟨by omega,by omega⟩,?_⟩;refine aD.own TC rfl ?_;simp -dsimp only[go_sem,L,h8,cC,cC];intro a w S2 ρ2 κ2 qa;have qp:(E cI l[i]).length=l[i].length:=aI _
 let σA:St:=⟨[(20,.agg [.loc (.t 20 0) 0 (E cI l[i]).length]),(15,.v (.int .i64 (i:Int))),(14,.loc (.t 7 0) 0 l.length),(0,.sl 1 (E cC l)),(3,.loc (.t 7 0) 0 l.length),(4,.v (.int .i64 (i:Int)))],[(.t 20 0,.arr 1 (E cI l[i]) false),(.t 7 0,.arr 1 (ss.map (fun s=>[AV.v s])++List.replicate (l.length-i) [.v (.slice none 0 0)]) false)]⟩
 have O:OK C σA.f a w S2 ρ2 κ2:=qa.le (by simp[σA,Vs.LeL,Vs.look,Vs.aB,qp])
 obtain ⟨s,C',hq,qb,qn,⟨sb,sn,sc,rfl⟩,qj,qi,qf⟩:=O.bury (n:=.t 20 0) (k:=1) (rows:=E cI l[i]) (t:=20) rfl (fun r hr=>by
   obtain⟨y,_,rfl⟩:=List.mem_map.1 hr;rfl) rfl hh
 have ql:=O.back hv;have hu:=(h3.mono (S':=S2) (w':=w) (fun j b U G=>(hh.same O).2.2.1 b (hd j b U G)) fun j b U G=>(hh.same O).1 b (hd j b U G)).snoc qf (fun j b U G=>(hh.same O).2.2.2 b (hd j b U G) (.t 20 0) (by rfl))
 have e3:(l.take i).map (E cI)++[E cI l[i]]=(l.take (i+1)).map (E cI):=by
  rw[List.take_succ_eq_append_getElem Y,List.map_append];rfl
 rw[e3,←qj,←qi] at hu
 have qk:∀b,(D b∨ρ2 (.t 20 0)=some b)→C0.w0.heap.size≤b:=fun b G=>by
  rcases G with G|G
  ·exact hD b G
  ·rcases ql.mine (.t 20 0) b (by rfl) G with h|h
   ·exact h
   ·rw[←hm] at h;exact h.elim
 let σB:St:=⟨[(20,.agg [.v (.slice sb sn sc)]),(15,.v (.int .i64 (i:Int))),(14,.loc (.t 7 0) 0 l.length),(0,.sl 1 (E cC l)),(3,.loc (.t 7 0) 0 l.length),(4,.v (.int .i64 (i:Int)))],[(.t 7 0,.arr 1 (ss.map (fun s=>[AV.v s])++List.replicate (l.length-i) [.v (.slice none 0 0)]) false)]⟩
 have qe:OK C' σB.f a w S2 ρ2 κ2:=qb.le (by simp[σA,σB,Vs.aW,Vs.LeL,Vs.look,Vs.aB,Vs.scr,Vs.fM,Vs.AV.has,Vs.l6,Vs.Blk.has])
 have hset:((ss.map fun s=>[AV.v s])++List.replicate (l.length-i) [AV.v (.slice none 0 0)]).set i [.v (.slice sb sn sc)]=((ss++[Value.slice sb sn sc]).map fun s=>[AV.v s])++List.replicate (l.length-(i+1)) [AV.v (.slice none 0 0)]:=by
  have e:l.length-i=(l.length-(i+1))+1:=by omega
  rw[e,List.replicate_succ,List.set_append_right _ _ (by simp[hl])];simp[hl]
 have qr:((ss.map fun s=>[AV.v s])++List.replicate (l.length-i) [AV.v (.slice none 0 0)]).length=l.length:=by simp[hl];omega
 have h6:((ss.map fun s=>[AV.v s])++List.replicate (l.length-i) [AV.v (.slice none 0 0)]).getD i []=[AV.v (.slice none 0 0)]:=by
  have:0<l.length-i:=by omega
  simp[List.getElem?_append_right,hl,this]
 refine⟨C',σB,S2,ρ2,κ2,fun σ'=>LeL σ' ⟨[(0,.sl 1 (E cC l)),(3,.loc (.t 7 0) 0 l.length),(4,.v (.int .i64 (i:Int)))],[(.t 7 0,.arr 1 ((ss++[Value.slice sb sn sc]).map (fun s=>[AV.v s])++List.replicate (l.length-(i+1)) [.v (.slice none 0 0)]) false)]⟩,hq.nt.trans M,qe,?_,fun a w hg=>?_⟩
 ·simp only[σB];simp -dsimp only[go_sem,L,cC];refine⟨⟨by omega,by omega⟩,by rw[h6];exact Nat.le_refl _,?_⟩;rw[h6];simp only[List.set_cons_zero];rw[hset];simp[Vs.LeL,Vs.look,Vs.aB]
 obtain⟨S5,ρ5,κ5,qc⟩:=hg.le;show At Tryz.prog _ _ (.region _ _ _) _ a w
 refine At.fw hf qc (hq.nt.trans M) (N:=fun σ'=>LeL σ' (T (i+1) (ss++[Value.slice sb sn sc]))) (E:=fun _ _=>False) ?_ (fun a w hg=>?_) (fun j a w hg=>hg.no.elim) (fun a w hg=>hg.no.elim)
 ·simp -dsimp only[go_sem,L,cC];simp[T,Vs.LeL,Vs.look,Vs.aB,hw]
 obtain⟨S6,ρ6,κ6,qd⟩:=hg.le;refine⟨l.length-(i+1),by omega,i+1,ss++[Value.slice sb sn sc],_,C',S6,ρ6,κ6,rfl,by omega,by simp[hl],hq.nt.trans h5,hv.trans hq,qd,qk,?_,_,_,hu,?_⟩
 ·rw[List.take_succ_eq_append_getElem Y,List.map_append];exact qn
 ·intro j b U G;simp only[List.length_append,List.length_singleton] at U;split at G
  ·exact .inr G
  ·exact .inl (hd j b (by omega) G)
end
section
variable [Vs.Envs]
attribute [local irreducible] Vs.Fn
theorem At.naming {P:Program}{nt:Nat}{dr:Nat→Array Oper→Option (List Nat)}{n:Nat}{x:aF}{Q:Exit→Act→World→Prop}{a:Act}{w:World} (h:At P nt dr x Q a w):At P nt dr (.naming n x) Q a w:=h
theorem aIP (x:List Int) (H:x.length≤1048576):Vs.Fn Tryz.prog F.jH [] [.agg (cC x)] (.agg [.loc (.b 0) 0 x.length]) [some (.arr 1 (E cI x) false)]:=by
 have G:=xW x H;refine fn1 Cd.i_newCard_k [.t 5 0] [.arr 1 (E cI x) false] fun X=>?_;unfold Cd.jH
 repeat' first|simp -dsimp only[go_sem,cC,Int.reduceBEq,Int.reduceBNe,cC,aI,List.replicate_succ,List.replicate_zero,List.flatten_cons,List.flatten_nil,List.cons_append,List.nil_append,List.set_cons_zero,List.set_cons_succ,List.length_cons,List.length_nil,List.length_set,List.mem_singleton,List.mem_cons,List.not_mem_nil,or_false,false_or,Vs.Name.t.injEq,List.getD_cons_zero,List.getD_cons_succ,Vs.Name.b.injEq,List.getElem?_cons_zero,List.getElem?_cons_succ]|apply Br.mk<;>intro h<;>try simp -dsimp only[h]|refine aD.own (by first|exact G) rfl ?_|refine aC ?_|fail
 all_goals first|omega|exact⟨_,_,rfl,rfl⟩
attribute [local go_sem] Int.reduceBEq Int.reduceBNe aI List.replicate_succ List.replicate_zero List.flatten_cons List.flatten_nil List.cons_append List.nil_append List.set_cons_zero List.set_cons_succ List.length_cons List.length_nil List.length_set List.mem_singleton List.mem_cons List.not_mem_nil or_false false_or Vs.Name.t.injEq List.getD_cons_zero List.getD_cons_succ Vs.Name.b.injEq List.getElem?_cons_zero List.getElem?_cons_succ in
theorem aEw (l:List (List Int)) (hk:aU l) {S:Nat→Prop}{w:World}{v0:Value} (hS:∀b,S b→b<w.heap.size) (he:Env S w) (h0:RC S w (.sl 1 (E cC l)) v0) :
  Calls Tryz.prog F.bZ #[v0] w fun e w'=>∃v D ss xs cs x0,e=.returned v∧w.heap.size≤w'.heap.size∧(∀b,b<w.heap.size→w'.heap[b]? = w.heap[b]?)∧(w'.os=w.os∧w'.output=w.output)∧RC D w' (.sl 1 (E cC l)) v∧(∀b,D b→w.heap.size≤b∧b<w'.heap.size)∧RC (fun b=>x0=some b) w' (.sl 1 (ss.map fun s=>[AV.v s])) v∧(∃c,Own (fun _=>False) w' x0 c 1 (ss.map fun s=>[AV.v s]) v)∧(∀b,x0=some b→D b)∧(∀i b,i<ss.length→xs i=some b→D b)∧Vs.pM (fun b=>b<w.heap.size∨x0=some b) w' 1 (l.map (E cI)) ss xs cs:=by
 obtain⟨h1,h2,_⟩:=Cd.i_newDeck_k.o;obtain⟨qq,G,hc⟩:=Option.bind_eq_some_iff.1 h2;have hz:(Tryz.f103.body.map (zB Tryz.f103.ntmps (bE Tryz.prog)))=some true:=by kernel_rfl
 rw[G] at hz;have O:=dB Tryz.mixed;refine aAp (dr:=bE Tryz.prog) (ac:=Cd.bZ) h1 G hc (by simpa using hz) (args:=[.sl 1 (E cC l)]) (by rw[Cd.i_newDeck_k.n];exact Nat.le_of_ble_eq_true rfl) hS he rfl (fun j Y=>?_) (fun _=>False) fun a H=>?_
 ·match j,Y with
  |0,_=>exact h0
 generalize hl:(⟨Tryz.f103.ntmps,w,S,fun _=>False,fun _=>none,fun _=>0,fun _=>none⟩:Ctx)=C0 at H;have ht:C0.nt=Tryz.f103.ntmps:=by rw[←hl]
 have hd:C0.w0=w:=by rw[←hl]
 have L:(E cC l).length=l.length:=aI _;unfold Cd.bZ;refine At.step ⟨[(0,.sl 1 (E cC l))],[]⟩ O H ht ?_ fun a w1 S1 ρ1 κ1 H=>?_
 ·simp -dsimp only[go_sem,L,cC]
  try simp[Vs.LeL,Vs.look,Vs.aB]
 refine At.step ⟨[(0,.sl 1 (E cC l)),(3,.loc (.t 3 0) 0 0)],[(.t 3 0,.arr 1 [] false)]⟩ O H ht ?_ fun a w2 S2 ρ2 κ2 H=>?_
 ·simp -dsimp only[go_sem,L,cC]
  try simp[Vs.LeL,Vs.look,Vs.aB]
 refine At.seq (At.step ⟨[(7,.sl 1 (E cC l)),(8,.v (.int .i64 (l.length:Nat))),(3,.loc (.t 3 0) 0 0),(9,.v (.int .i64 ((0:Nat):Int)))],[(.t 3 0,.arr 1 [] false)]⟩ O H ht ?_ fun a w3 S3 ρ3 κ3 H=>?_)
 ·simp -dsimp only[go_sem,L,cC]
  try simp[Vs.LeL,Vs.look,Vs.aB]
 refine At.block ?_
 let T:Nat→List Value→St:=fun i ss=>⟨[(7,.sl 1 (E cC l)),(8,.v (.int .i64 (l.length:Nat))),(3,.loc (.t 3 0) 0 ss.length),(9,.v (.int .i64 (i:Int)))],[(.t 3 0,.arr 1 (ss.map (fun s=>[AV.v s])) false)]⟩
 let I:Nat→Act→World→Prop:=fun n a w=>∃(i:Nat) (ss:List Value) (D:Nat→Prop) (C:Ctx) (S:Nat→Prop) (ρ:Vs.Name→Option Nat) (κ:Vs.Name→Nat),n=l.length-i∧i≤l.length∧ss.length=i∧C.nt=C0.nt∧Later C0 C∧OK C (T i ss).f a w S ρ κ∧(∀b,D b→C0.w0.heap.size≤b)∧Hid C D (.tup ((l.take i).map fun r=>.sl 1 (E cI r))) (.tuple ss.toArray)∧∃xs cs,Vs.pM C.S0 C.w0 1 ((l.take i).map (E cI)) ss xs cs∧∀j b,j<ss.length→xs j=some b→D b
 refine At.loop I (fun n a w hI=>?_) (n:=l.length) ?_
 rotate_left
 ·refine⟨0,[],fun _=>False,C0.anew w3 S3 _ ρ3,S3,ρ3,κ3,by omega,by omega,rfl,rfl,H.later,?_,fun b G=>G.elim,⟨.tup _ _ rfl (by simp),fun b G=>G.elim,fun b G=>G.elim⟩,fun _=>none,fun _=>0,⟨rfl,by simp,by simp⟩,by simp⟩;have e:T 0 []=⟨[(7,.sl 1 (E cC l)),(8,.v (.int .i64 (l.length:Nat))),(3,.loc (.t 3 0) 0 0),(9,.v (.int .i64 ((0:Nat):Int)))],[(.t 3 0,.arr 1 [] false)]⟩:=by simp[T]
  rw[e];exact H.anew
 obtain⟨i,ss,D,C,S,ρ,κ,hn,hi,ho,h8,hy,H,hD,hh,xs,cs,h4,hf⟩:=hI;have M:C.nt=Tryz.f103.ntmps:=h8.trans ht;refine At.step ⟨(10,.v (.bool (decide ((i:Int)<(l.length:Nat)))))::(T i ss).s,(T i ss).h⟩ O H M ?_ fun a w S ρ κ H=>?_
 ·simp only[T];simp -dsimp only[go_sem,L,cC]
  try simp[Vs.LeL,Vs.look,Vs.aB]
 refine At.seq (At.fw O H M (N:=fun σ'=>LeL σ' (T i ss)∧i<l.length) (E:=fun e σ'=>match e with|.exit j=>j=0∧LeL σ' (T i ss)∧i=l.length|.ret=>False) ?_ (fun a w hg=>?_) (fun j a w hg=>?_) (fun a w hg=>hg.no.elim))
 ·simp only[T];simp -dsimp only[go_sem,L,cC];refine Br.mk (fun hc=>?_) fun hc=>?_
  ·have ha:i<l.length:=by have:=of_decide_eq_true hc;omega
   try simp -dsimp only[go_sem,L,cC]
   exact⟨by simp[Vs.LeL,Vs.look,Vs.aB],ha⟩
  ·have qn:i=l.length:=by have:=of_decide_eq_false hc;omega
   try simp -dsimp only[go_sem,L,cC]
   exact⟨by simp[Vs.LeL,Vs.look,Vs.aB],qn⟩
 rotate_left
 ·-- the loop's end
  obtain⟨σ',S',ρ',κ',⟨rfl,h3,rfl⟩,hm⟩:=hg;have H:=hm.le h3;simp only[Exit.then,Exit.inBlock,if_true];refine At.step ⟨[(2,.loc (.t 3 0) 0 ss.length)],[(.t 3 0,.arr 1 (ss.map fun s=>[AV.v s]) false)]⟩ O H M ?_ fun a w4 S4 ρ4 κ4 J=>?_
  ·simp only[T]
   try simp -dsimp only[go_sem,L,cC]
   simp[Vs.LeL,Vs.look,Vs.aB,ho]
  refine At.ret ⟨.inl rfl,J.defers,?_⟩
  obtain ⟨x,v,hx,h5,qh⟩:=Vs.uR J (fn:=Tryz.f103) (K:=fun x=>x=.loc (.t 3 0) 0 ss.length) (by
    show Vs.rR Tryz.prog _ _ [_]
    simp[Vs.rR,Vs.aEq,Vs.look,Vs.oJ])
  subst hx;have hp:=J.back hy;have h9:=J.graft (n:=.t 3 0) (ss:=ss) (by rfl) hh h5;have qa:(((l.take l.length).map fun r=>AV.sl 1 (E cI r)).map fun x=>[x])=E cC l:=by simp[E,cC,List.map_map]
  rw[qa] at h9;refine⟨v,qh,v,_,ss,xs,cs,ρ4 (.t 3 0),rfl,?_,fun b G=>?_,?_,h9,fun b G=>?_,?_,?_,fun b G=>.inr G,fun j b Y G=>.inl (hf j b Y G),?_⟩
  ·have:=hp.size;rw[hd] at this;exact this
  ·have:=hp.old b (by rw[hd];exact G) (by rw[←hl];exact fun h=>h);rw[hd] at this;exact this
  ·have:=hp.out;rw[hd] at this;exact this
  ·rcases G with G|G
   ·exact⟨hd ▸ hD b G,(hh.same J).2.1 b G⟩
   ·refine⟨?_,J.hok.lt (n:=.t 3 0) (by rfl) G⟩;rcases hp.mine (.t 3 0) b (by rfl) G with h|h
    ·exact hd ▸ h
    ·rw[←hl] at h;exact h.elim
  ·exact J.expose (n:=.t 3 0) (by rfl) (fun r hr=>by
     obtain⟨y,_,rfl⟩:=List.mem_map.1 hr;rfl) (by simpa using h5)
  ·exact ⟨_,(J.own (n:=.t 3 0) (by rfl) (fun r hr=>by
     obtain⟨y,_,rfl⟩:=List.mem_map.1 hr;rfl) (by simpa using h5)).mono (fun _ _ h=>h) fun _ _=>rfl⟩
  ·rw[List.take_length] at h4;refine h4.mono (fun j b Y G hs=>?_) fun j b Y G=>(hh.same J).1 b (hf j b Y G);have h6:=hf j b Y G;rcases hs with hs|hs
   ·have:=hD b h6;rw[hd] at this;omega
   ·exact(hh.same J).2.2.2 b h6 (.t 3 0) (by rfl) hs
 obtain⟨σ',S',ρ',κ',⟨h3,ha⟩,hm⟩:=hg;have H:=hm.le h3;have hw:=aH ha hk.1;have hv:(E cC l).getD i []=[.sl 1 (E cI l[i])]:=aS ha;have TC:=aIP l[i] (hk.2 _ (List.getElem_mem ha));show At Tryz.prog _ _ (.seq _ _) _ a w
 refine At.seq (At.block (At.step ⟨[(5,.ptr (.t 5 0) 0 0),(7,.sl 1 (E cC l)),(8,.v (.int .i64 (l.length:Nat))),(3,.loc (.t 3 0) 0 ss.length),(9,.v (.int .i64 (i:Int)))],[(.t 5 0,.var [.sl 1 (E cI l[i])] false),(.t 3 0,.arr 1 (ss.map (fun s=>[AV.v s])) false)]⟩ O H M ?_ fun a w S1 ρ1 κ1 H=>At.naming (At.halt (pre:=[⟨some 13,.mv (.tmp 3),none⟩,⟨some 14,.load true 1 (.tmp 5),none⟩,⟨some 15,.call (.func F.jH) [(.tmp 14)] [],none⟩]) (post:=[⟨some 16,.bslice 1 1 [.v (.slice none 0 0)] [(0,(.tmp 15))],none⟩,⟨some 17,.append 1 24 (.tmp 13) (.tmp 16),none⟩,⟨some 3,.mv (.tmp 17),none⟩]) H M ?_)))
 ·simp only[T];simp -dsimp only[go_sem,L,hv,cC,cC]
  first|exact⟨⟨by omega,by omega⟩,by simp[Vs.LeL,Vs.look,Vs.aB]⟩
 simp -dsimp only[go_sem,L,hv,cC,cC];refine aD.own TC rfl ?_;simp -dsimp only[go_sem,L,hv,cC,cC];intro a w S2 ρ2 κ2 qb;have qp:(E cI l[i]).length=l[i].length:=aI _
 let σA:St:=⟨[(15,.agg [.loc (.t 15 0) 0 (E cI l[i]).length]),(13,.loc (.t 3 0) 0 ss.length),(7,.sl 1 (E cC l)),(8,.v (.int .i64 (l.length:Nat))),(3,.loc (.t 3 0) 0 ss.length),(9,.v (.int .i64 (i:Int)))],[(.t 15 0,.arr 1 (E cI l[i]) false),(.t 3 0,.arr 1 (ss.map (fun s=>[AV.v s])) false)]⟩
 have U:OK C σA.f a w S2 ρ2 κ2:=qb.le (by simp[σA,Vs.LeL,Vs.look,Vs.aB,qp])
 obtain ⟨s,C',hq,qc,qo,⟨sb,sn,sc,rfl⟩,qk,qj,qg⟩:=U.bury (n:=.t 15 0) (k:=1) (rows:=E cI l[i]) (t:=15) rfl (fun r hr=>by
   obtain⟨y,_,rfl⟩:=List.mem_map.1 hr;rfl) rfl hh
 have qm:=U.back hy;have hu:=(h4.mono (S':=S2) (w':=w) (fun j b Y G=>(hh.same U).2.2.1 b (hf j b Y G)) fun j b Y G=>(hh.same U).1 b (hf j b Y G)).snoc qg (fun j b Y G=>(hh.same U).2.2.2 b (hf j b Y G) (.t 15 0) (by rfl))
 have e3:(l.take i).map (E cI)++[E cI l[i]]=(l.take (i+1)).map (E cI):=by
  rw[List.take_succ_eq_append_getElem ha,List.map_append];rfl
 rw[e3,←qk,←qj] at hu
 have ql:∀b,(D b∨ρ2 (.t 15 0)=some b)→C0.w0.heap.size≤b:=fun b G=>by
  rcases G with G|G
  ·exact hD b G
  ·rcases qm.mine (.t 15 0) b (by rfl) G with h|h
   ·exact h
   ·rw[←hl] at h;exact h.elim
 let σB:St:=⟨[(15,.agg [.v (.slice sb sn sc)]),(13,.loc (.t 3 0) 0 ss.length),(7,.sl 1 (E cC l)),(8,.v (.int .i64 (l.length:Nat))),(3,.loc (.t 3 0) 0 ss.length),(9,.v (.int .i64 (i:Int)))],[(.t 3 0,.arr 1 (ss.map (fun s=>[AV.v s])) false)]⟩
 have qf:OK C' σB.f a w S2 ρ2 κ2:=qc.le (by simp[σA,σB,Vs.aW,Vs.LeL,Vs.look,Vs.aB,Vs.scr,Vs.fM,Vs.AV.has,Vs.l6,Vs.Blk.has]);have h7:(ss.map fun s=>[AV.v s])++[[AV.v (.slice sb sn sc)]]=(ss++[Value.slice sb sn sc]).map fun s=>[AV.v s]:=by simp
 have qi:(ss.map fun s=>[AV.v s]).length=ss.length:=by simp
 have qr:=hk.1
 let τ:St:=⟨[(7,.sl 1 (E cC l)),(8,.v (.int .i64 (l.length:Nat))),(3,.loc (.t 17 0) 0 (i+1)),(9,.v (.int .i64 (i:Int)))],[(.t 17 0,.arr 1 ((ss++[Value.slice sb sn sc]).map (fun s=>[AV.v s])) false)]⟩
 refine⟨C',σB,S2,ρ2,κ2,fun σ'=>LeL σ' τ,hq.nt.trans M,qf,?_,fun a w hg=>?_⟩
 ·simp only[σB,τ];simp -dsimp only[go_sem,L,h7,qi,hw,cC]
  and_intros
  all_goals first|omega|(simp[Vs.LeL,Vs.look,Vs.aB,ho];done)|(simp[Vs.LeL,Vs.look,Vs.aB,ho];omega)
 obtain⟨S4,ρ4,κ4,J⟩:=hg.le;obtain⟨ρ5,κ5,qd⟩:=J.mX (n:=.t 17 0) (m:=.t 3 0) (by decide) (by rfl);show At Tryz.prog _ _ (.region _ _ _) _ a w
 refine At.fw O qd (hq.nt.trans M) (N:=fun σ'=>LeL σ' (T (i+1) (ss++[Value.slice sb sn sc]))) (E:=fun _ _=>False) ?_ (fun a w hg=>?_) (fun j a w hg=>hg.no.elim) (fun a w hg=>hg.no.elim)
 ·simp only[τ,T,Vs.mX];simp -dsimp only[go_sem,L,h7,qi,hw,cC]
  first|(simp[Vs.LeL,Vs.look,Vs.aB,hw,ho];done)
 obtain⟨S6,ρ6,κ6,qe⟩:=hg.le;refine⟨l.length-(i+1),by omega,i+1,ss++[Value.slice sb sn sc],_,C',S6,ρ6,κ6,rfl,by omega,by simp[ho],hq.nt.trans h8,hy.trans hq,qe,ql,?_,_,_,hu,?_⟩
 ·rw[List.take_succ_eq_append_getElem ha,List.map_append];exact qo
 ·intro j b Y G;simp only[List.length_append,List.length_singleton] at Y;split at G
  ·exact .inr G
  ·exact .inl (hf j b (by omega) G)
end
end Go.Proofs.YtkgeiaideklmoaaGreat
