/- A deck is copied into new memory, all of it. -/
import Derived.Test.YthfnpdhpefialaaGreatYwC
import Derived.Test.YthfnpdhpefialaaGreatVtR
import Derived.Test.YthfnpdhpefialaaGreatVtZ
set_option linter.all false
set_option maxHeartbeats 8000000
namespace Go.Proofs.YthfnpdhpefialaaGreat
open Go.Vs
variable [Vs.Envs]
attribute [local irreducible] Vs.Fn
theorem toCardO (x:List Int) (hx:x.length≤1048576):Vs.Fn Tryz.prog F.l_toCard [] [.agg (cC x)] (.agg [.loc (.b 0) 0 x.length]) [some (.arr 1 (E cI x) false)]:=by
 have TI:Vs.Fn Tryz.prog F.l_toInt64S [] [.sl 1 (E cI x)] (.loc (.b 0) 0 x.length) [some (.arr 1 (E cI x) false)]:=toI_own Tryz.mixed Cd.l_toInt64S_k.o Cd.l_toInt64S_k.n Cd.l_toInt64S_k.r rfl hx
 refine fn1 Cd.l_toCard_k [.t 6 0] [.arr 1 (E cI x) false] fun X=>?_
 unfold Cd.l_toCard
 repeat' first|simp -dsimp only[go_sem,cC,Int.reduceBEq,Int.reduceBNe,cC,E_len,List.replicate_succ,List.replicate_zero,List.flatten_cons,List.flatten_nil,List.cons_append,List.nil_append,List.set_cons_zero,List.set_cons_succ,List.length_cons,List.length_nil,List.length_set,List.mem_singleton,List.mem_cons,List.not_mem_nil,or_false,false_or,Vs.Name.t.injEq,List.getD_cons_zero,List.getD_cons_succ,Vs.Name.b.injEq,List.getElem?_cons_zero,List.getElem?_cons_succ]|apply Br.mk<;>intro h<;>try simp -dsimp only[h]|refine CallK.own (by first|exact TI) rfl ?_|refine aC ?_|fail
 all_goals first|omega|exact⟨_,_,rfl,rfl⟩
attribute [local go_sem] Int.reduceBEq Int.reduceBNe E_len List.replicate_succ List.replicate_zero List.flatten_cons List.flatten_nil List.cons_append List.nil_append List.set_cons_zero List.set_cons_succ List.length_cons List.length_nil List.length_set List.mem_singleton List.mem_cons List.not_mem_nil or_false false_or Vs.Name.t.injEq List.getD_cons_zero List.getD_cons_succ Vs.Name.b.injEq List.getElem?_cons_zero List.getElem?_cons_succ in
theorem toCardS_new (l:List (List Int)) (hk:smallC l) {S:Nat→Prop}{w:World}{v0:Value} (hS:∀b,S b→b<w.heap.size) (he:Env S w) (h0:RC S w (.sl 1 (E cC l)) v0) :
  Calls Tryz.prog F.l_toCardS #[v0] w fun e w'=>∃v D ss xs cs x0,e=.returned v∧w.heap.size≤w'.heap.size∧(∀b,b<w.heap.size→w'.heap[b]? = w.heap[b]?)∧(w'.os=w.os∧w'.output=w.output)∧RC D w' (.sl 1 (E cC l)) v∧(∀b,D b→w.heap.size≤b∧b<w'.heap.size)∧RC (fun b=>x0=some b) w' (.sl 1 (ss.map fun s=>[AV.v s])) v∧(∀b,x0=some b→D b)∧(∀i b,i<ss.length→xs i=some b→D b)∧Vs.OwnL (fun b=>b<w.heap.size∨x0=some b) w' 1 (l.map (E cI)) ss xs cs:=by
 obtain⟨h1,h2,_⟩:=Cd.l_toCardS_k.o
 obtain⟨body,hb,hc⟩:=Option.bind_eq_some_iff.1 h2
 have hz:(Tryz.f8.body.map (zB Tryz.f8.ntmps (drawnG Tryz.prog)))=some true:=by kernel_rfl
 rw[hb] at hz
 have hdr:=drawn_ok Tryz.mixed
 refine calls_at (dr:=drawnG Tryz.prog) (ac:=Cd.l_toCardS) h1 hb hc (by simpa using hz) (args:=[.sl 1 (E cC l)]) (by rw[Cd.l_toCardS_k.n];exact Nat.le_of_ble_eq_true rfl) hS he rfl (fun j hj=>?_) (fun _=>False) fun a hok=>?_
 ·match j,hj with
  |0,_=>exact h0
 generalize hC0:(⟨Tryz.f8.ntmps,w,S,fun _=>False,fun _=>none,fun _=>0,fun _=>none⟩:Ctx)=C0 at hok
 have hnt:C0.nt=Tryz.f8.ntmps:=by rw[←hC0]
 have hw0:C0.w0=w:=by rw[←hC0]
 have hlL:(E cC l).length=l.length:=E_len _
 unfold Cd.l_toCardS
 refine At.step ⟨[(0,.sl 1 (E cC l))],[]⟩ hdr hok hnt ?_ fun a w1 S1 ρ1 κ1 hok=>?_
 ·simp -dsimp only[go_sem,hlL,cC]
  try simp[Vs.LeL,Vs.look,Vs.hlook]
 refine At.step ⟨[(0,.sl 1 (E cC l)),(3,.loc (.t 7 0) 0 l.length)],[(.t 7 0,.arr 1 (List.replicate l.length [.v (.slice none 0 0)]) false)]⟩ hdr hok hnt ?_ fun a w2 S2 ρ2 κ2 hok=>?_
 ·simp -dsimp only[go_sem,hlL,cC]
  have hly:(l.length:Int)*((24:Nat):Int)≤2 ^ 47:=by have:=hk.1;omega
  exact⟨⟨by omega,hly,by have:=hk.1;omega⟩,by simp[Vs.LeL,Vs.look,Vs.hlook]⟩
 refine At.seq (At.step ⟨[(0,.sl 1 (E cC l)),(3,.loc (.t 7 0) 0 l.length),(4,.v (.int .i64 ((0:Nat):Int)))],[(.t 7 0,.arr 1 (List.replicate l.length [.v (.slice none 0 0)]) false)]⟩ hdr hok hnt ?_ fun a w3 S3 ρ3 κ3 hok=>?_)
 ·simp -dsimp only[go_sem,hlL,cC]
  try simp[Vs.LeL,Vs.look,Vs.hlook]
 refine At.block ?_
 let T:Nat→List Value→St:=fun i ss=>⟨[(0,.sl 1 (E cC l)),(3,.loc (.t 7 0) 0 l.length),(4,.v (.int .i64 (i:Int)))],[(.t 7 0,.arr 1 (ss.map (fun s=>[AV.v s])++List.replicate (l.length-i) [.v (.slice none 0 0)]) false)]⟩
 let I:Nat→Act→World→Prop:=fun n a w=>∃(i:Nat) (ss:List Value) (D:Nat→Prop) (C:Ctx) (S:Nat→Prop) (ρ:Vs.Name→Option Nat) (κ:Vs.Name→Nat),n=l.length-i∧i≤l.length∧ss.length=i∧C.nt=C0.nt∧Later C0 C∧OK C (T i ss).f a w S ρ κ∧(∀b,D b→C0.w0.heap.size≤b)∧Hid C D (.tup ((l.take i).map fun r=>.sl 1 (E cI r))) (.tuple ss.toArray)∧∃xs cs,Vs.OwnL C.S0 C.w0 1 ((l.take i).map (E cI)) ss xs cs∧∀j b,j<ss.length→xs j=some b→D b
 refine At.loop I (fun n a w hI=>?_) (n:=l.length) ?_
 rotate_left
 ·refine⟨0,[],fun _=>False,C0.anew w3 S3 _ ρ3,S3,ρ3,κ3,by omega,by omega,rfl,rfl,hok.later,?_,fun b hb=>hb.elim,⟨.tup _ _ rfl (by simp),fun b hb=>hb.elim,fun b hb=>hb.elim⟩,fun _=>none,fun _=>0,⟨rfl,by simp,by simp⟩,by simp⟩
  have e:T 0 []=⟨[(0,.sl 1 (E cC l)),(3,.loc (.t 7 0) 0 l.length),(4,.v (.int .i64 ((0:Nat):Int)))],[(.t 7 0,.arr 1 (List.replicate l.length [.v (.slice none 0 0)]) false)]⟩:=by simp[T]
  rw[e]
  exact hok.anew
 obtain⟨i,ss,D,C,S,ρ,κ,hn,hi,hss,hcn,hla,hok,hD,hh,xs,cs,how,hxD⟩:=hI
 have hcnt:C.nt=Tryz.f8.ntmps:=hcn.trans hnt
 refine At.seq (At.fw hdr hok hcnt (N:=fun σ'=>LeL σ' (T i ss)∧i<l.length) (E:=fun e σ'=>match e with|.exit j=>j=0∧LeL σ' (T i ss)∧i=l.length|.ret=>False) ?_ (fun a w hg=>?_) (fun j a w hg=>?_) (fun a w hg=>hg.no.elim))
 ·simp only[T]
  simp -dsimp only[go_sem,hlL,cC]
  refine Br.mk (fun hc=>?_) fun hc=>?_
  ·have hlt:i<l.length:=by have:=of_decide_eq_true hc;omega
   try simp -dsimp only[go_sem,hlL,cC]
   exact⟨by simp[Vs.LeL,Vs.look,Vs.hlook],hlt⟩
  ·have hge:i=l.length:=by have:=of_decide_eq_false hc;omega
   try simp -dsimp only[go_sem,hlL,cC]
   exact⟨by simp[Vs.LeL,Vs.look,Vs.hlook],hge⟩
 rotate_left
 ·-- the loop's end
  obtain⟨σ',S',ρ',κ',⟨rfl,hle,rfl⟩,hok'⟩:=hg
  have hok:=hok'.le hle
  simp only[Exit.then,Exit.inBlock,if_true]
  refine At.step ⟨[(2,.loc (.t 7 0) 0 ss.length)],[(.t 7 0,.arr 1 (ss.map fun s=>[AV.v s]) false)]⟩ hdr hok hcnt ?_ fun a w4 S4 ρ4 κ4 hok4=>?_
  ·simp only[T]
   try simp -dsimp only[go_sem,hlL,cC]
   simp[Vs.LeL,Vs.look,Vs.hlook,hss]
  refine At.ret ⟨.inl rfl,hok4.defers,?_⟩
  obtain ⟨x,v,hx,hxv,hrun⟩:=Vs.res_run hok4 (fn:=Tryz.f8) (K:=fun x=>x=.loc (.t 7 0) 0 ss.length) (by
    show Vs.resL Tryz.prog _ _ [_]
    simp[Vs.resL,Vs.resV,Vs.look,Vs.oneOr])
  subst hx
  have hb4:=hok4.back hla
  have hgr:=hok4.graft (n:=.t 7 0) (ss:=ss) (by rfl) hh hxv
  have hmap:(((l.take l.length).map fun r=>AV.sl 1 (E cI r)).map fun x=>[x])=E cC l:=by simp[E,cC,List.map_map]
  rw[hmap] at hgr
  refine⟨v,hrun,v,_,ss,xs,cs,ρ4 (.t 7 0),rfl,?_,fun b hb=>?_,?_,hgr,fun b hb=>?_,?_,fun b hb=>.inr hb,fun j b hj hb=>.inl (hxD j b hj hb),?_⟩
  ·have:=hb4.size;rw[hw0] at this;exact this
  ·have:=hb4.old b (by rw[hw0];exact hb) (by rw[←hC0];exact fun h=>h);rw[hw0] at this;exact this
  ·have:=hb4.out;rw[hw0] at this;exact this
  ·rcases hb with hb|hb
   ·exact⟨hw0 ▸ hD b hb,(hh.same hok4).2.1 b hb⟩
   ·refine⟨?_,hok4.hok.lt (n:=.t 7 0) (by rfl) hb⟩
    rcases hb4.mine (.t 7 0) b (by rfl) hb with h|h
    ·exact hw0 ▸ h
    ·rw[←hC0] at h;exact h.elim
  ·exact hok4.expose (n:=.t 7 0) (by rfl) (fun r hr=>by
     obtain⟨y,_,rfl⟩:=List.mem_map.1 hr
     rfl) (by simpa using hxv)
  ·rw[List.take_length] at how
   refine how.mono (fun j b hj hb hs=>?_) fun j b hj hb=>(hh.same hok4).1 b (hxD j b hj hb)
   have hDb:=hxD j b hj hb
   rcases hs with hs|hs
   ·have:=hD b hDb;rw[hw0] at this;omega
   ·exact(hh.same hok4).2.2.2 b hDb (.t 7 0) (by rfl) hs
 obtain⟨σ',S',ρ',κ',⟨hle,hlt⟩,hok'⟩:=hg
 have hok:=hok'.le hle
 have hw:=wrap_succ hlt hk.1
 have hgt:(E cC l).getD i []=[.sl 1 (E cI l[i])]:=E_get hlt
 have TC:=toCardO l[i] (hk.2 _ (List.getElem_mem hlt))
 show At Tryz.prog _ _ (.seq _ _) _ a w
 refine At.seq (At.block (At.halt (pre:=[⟨some 14,.mv (.tmp 3),none⟩,⟨some 15,.mv (.tmp 4),none⟩,⟨some 16,.mv (.tmp 0),none⟩,⟨some 17,.mv (.tmp 4),none⟩,⟨some 18,.idxSl 1 (.tmp 16) (.tmp 17),none⟩,⟨some 19,.load true 1 (.tmp 18),none⟩,⟨some 20,.call (.func F.l_toCard) [(.tmp 19)] [],none⟩]) (post:=[⟨some 21,.idxSl 1 (.tmp 14) (.tmp 15),none⟩,⟨none,.store 1 (.tmp 21) (.tmp 20),none⟩]) hok hcnt ?_))
 simp only[T]
 simp -dsimp only[go_sem,hlL,hgt,cC,cC]
 refine⟨⟨by omega,by omega⟩,?_⟩
 refine CallK.own TC rfl ?_
 simp -dsimp only[go_sem,hlL,hgt,cC,cC]
 intro a w S2 ρ2 κ2 hok2
 have hrl:(E cI l[i]).length=l[i].length:=E_len _
 let σA:St:=⟨[(20,.agg [.loc (.t 20 0) 0 (E cI l[i]).length]),(15,.v (.int .i64 (i:Int))),(14,.loc (.t 7 0) 0 l.length),(0,.sl 1 (E cC l)),(3,.loc (.t 7 0) 0 l.length),(4,.v (.int .i64 (i:Int)))],[(.t 20 0,.arr 1 (E cI l[i]) false),(.t 7 0,.arr 1 (ss.map (fun s=>[AV.v s])++List.replicate (l.length-i) [.v (.slice none 0 0)]) false)]⟩
 have hokA:OK C σA.f a w S2 ρ2 κ2:=hok2.le (by simp[σA,Vs.LeL,Vs.look,Vs.hlook,hrl])
 obtain ⟨s,C',hl',hok3,hh3,⟨sb,sn,sc,rfl⟩,hCw,hCS,hown⟩:=hokA.bury (n:=.t 20 0) (k:=1) (rows:=E cI l[i]) (t:=20) rfl (fun r hr=>by
   obtain⟨y,_,rfl⟩:=List.mem_map.1 hr
   rfl) rfl hh
 have hbA:=hokA.back hla
 have how2:=(how.mono (S':=S2) (w':=w) (fun j b hj hb=>(hh.same hokA).2.2.1 b (hxD j b hj hb)) fun j b hj hb=>(hh.same hokA).1 b (hxD j b hj hb)).snoc hown (fun j b hj hb=>(hh.same hokA).2.2.2 b (hxD j b hj hb) (.t 20 0) (by rfl))
 have e3:(l.take i).map (E cI)++[E cI l[i]]=(l.take (i+1)).map (E cI):=by
  rw[List.take_succ_eq_append_getElem hlt,List.map_append];rfl
 rw[e3,←hCw,←hCS] at how2
 have hD3:∀b,(D b∨ρ2 (.t 20 0)=some b)→C0.w0.heap.size≤b:=fun b hb=>by
  rcases hb with hb|hb
  ·exact hD b hb
  ·rcases hbA.mine (.t 20 0) b (by rfl) hb with h|h
   ·exact h
   ·rw[←hC0] at h;exact h.elim
 let σB:St:=⟨[(20,.agg [.v (.slice sb sn sc)]),(15,.v (.int .i64 (i:Int))),(14,.loc (.t 7 0) 0 l.length),(0,.sl 1 (E cC l)),(3,.loc (.t 7 0) 0 l.length),(4,.v (.int .i64 (i:Int)))],[(.t 7 0,.arr 1 (ss.map (fun s=>[AV.v s])++List.replicate (l.length-i) [.v (.slice none 0 0)]) false)]⟩
 have hokB:OK C' σB.f a w S2 ρ2 κ2:=hok3.le (by simp[σA,σB,Vs.killL,Vs.LeL,Vs.look,Vs.hlook,Vs.scr,Vs.scrB,Vs.AV.has,Vs.hasL,Vs.Blk.has])
 have hset:((ss.map fun s=>[AV.v s])++List.replicate (l.length-i) [AV.v (.slice none 0 0)]).set i [.v (.slice sb sn sc)]=((ss++[Value.slice sb sn sc]).map fun s=>[AV.v s])++List.replicate (l.length-(i+1)) [AV.v (.slice none 0 0)]:=by
  have e:l.length-i=(l.length-(i+1))+1:=by omega
  rw[e,List.replicate_succ,List.set_append_right _ _ (by simp[hss])]
  simp[hss]
 have hlen:((ss.map fun s=>[AV.v s])++List.replicate (l.length-i) [AV.v (.slice none 0 0)]).length=l.length:=by simp[hss];omega
 have hgi:((ss.map fun s=>[AV.v s])++List.replicate (l.length-i) [AV.v (.slice none 0 0)]).getD i []=[AV.v (.slice none 0 0)]:=by
  have:0<l.length-i:=by omega
  simp[List.getElem?_append_right,hss,this]
 refine⟨C',σB,S2,ρ2,κ2,fun σ'=>LeL σ' ⟨[(0,.sl 1 (E cC l)),(3,.loc (.t 7 0) 0 l.length),(4,.v (.int .i64 (i:Int)))],[(.t 7 0,.arr 1 ((ss++[Value.slice sb sn sc]).map (fun s=>[AV.v s])++List.replicate (l.length-(i+1)) [.v (.slice none 0 0)]) false)]⟩,hl'.nt.trans hcnt,hokB,?_,fun a w hg=>?_⟩
 ·simp only[σB]
  simp -dsimp only[go_sem,hlL,cC]
  refine⟨⟨by omega,by omega⟩,by rw[hgi];exact Nat.le_refl _,?_⟩
  rw[hgi]
  simp only[List.set_cons_zero]
  rw[hset]
  simp[Vs.LeL,Vs.look,Vs.hlook]
 obtain⟨S5,ρ5,κ5,hok5⟩:=hg.le
 show At Tryz.prog _ _ (.region _ _ _) _ a w
 refine At.fw hdr hok5 (hl'.nt.trans hcnt) (N:=fun σ'=>LeL σ' (T (i+1) (ss++[Value.slice sb sn sc]))) (E:=fun _ _=>False) ?_ (fun a w hg=>?_) (fun j a w hg=>hg.no.elim) (fun a w hg=>hg.no.elim)
 ·simp -dsimp only[go_sem,hlL,cC]
  simp[T,Vs.LeL,Vs.look,Vs.hlook,hw]
 obtain⟨S6,ρ6,κ6,hok6⟩:=hg.le
 refine⟨l.length-(i+1),by omega,i+1,ss++[Value.slice sb sn sc],_,C',S6,ρ6,κ6,rfl,by omega,by simp[hss],hl'.nt.trans hcn,hla.trans hl',hok6,hD3,?_,_,_,how2,?_⟩
 ·rw[List.take_succ_eq_append_getElem hlt,List.map_append]
  exact hh3
 ·intro j b hj hb
  simp only[List.length_append,List.length_singleton] at hj
  split at hb
  ·exact .inr hb
  ·exact .inl (hxD j b (by omega) hb)
end Go.Proofs.YthfnpdhpefialaaGreat
