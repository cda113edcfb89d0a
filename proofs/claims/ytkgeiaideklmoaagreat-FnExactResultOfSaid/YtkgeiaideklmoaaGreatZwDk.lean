/- A step of the program answers an office in memory of its own: the walk. -/
import Derived.Test.YtkgeiaideklmoaaGreatZwDd
import Derived.Test.YtkgeiaideklmoaaGreatZwDf
import Derived.Test.YtkgeiaideklmoaaGreatZwVq
import Derived.Test.YtkgeiaideklmoaaGreatVtR
set_option linter.all false
set_option maxHeartbeats 8000000
namespace Go.Proofs.YtkgeiaideklmoaaGreat
open Go.Vs
section
variable [Vs.Envs]
attribute [local irreducible] Vs.Fn aX mgC fI mtC eH mY mat dkC dkL jK fG wO eX kS eT bL pun cmT zR aAh chOK areCh chTo chAt l03 chB rk cd3 chI stp stpTo
attribute [local go_sem] aI List.replicate_succ List.replicate_zero List.flatten_cons List.flatten_nil List.cons_append List.nil_append List.set_cons_zero List.set_cons_succ List.length_cons List.length_nil List.length_set List.getD_cons_zero cD List.mem_singleton Vs.Name.t.injEq List.mem_cons List.not_mem_nil or_false false_or in
theorem aHf (l:List (List Int)) (fr to sf st:Int) (ho:∀c,c∈l→okF fr to c) (hp:∀c,c∈l→okP sf st c) (hl:l.length≤1048576) (hN:rT sf st l=true) (hC:bP fr to l=true):Vs.Fn Tryz.prog F.lL [] [.sl 1 (E cC l),.agg (cFd fr to),.agg (cFd sf st)] (.tup [.loc (.b 0) 0 (iI fr to sf st l).length,.v (.int .i64 0)]) [some (.arr 2 (E cTt (iI fr to sf st l)) false)]:=by
 have SO:=aDp l sf st hp hl;have HF:=nU l fr to ho hl;have GR:=groups l fr to ho hl;rw[hN] at SO;rw[hC] at HF;have hb:jK fr to sf st l=true:=by simp[jK,hN,hC]
 have hgm:∀g,g∈aAh fr to l→0<g.length∧g.length≤l.length∧∀c,c∈g→c∈l:=fun g hg=>aB4 hg;have hGl:=aB5 fr to l;unfold iI;generalize aAh fr to l=G at *
 rw[List.length_map];refine fn1 Cd.i_totalsOf_k [.t 10 0] [.arr 2 (E cTt (G.map fun g=>(txt (fH fr to (g.getD 0 [])),eX sf st g))) false] fun X=>?_;unfold Cd.lL
 repeat' first|simp -dsimp only[go_sem,cC,cFd]|apply Br.mk<;>intro h<;>try simp -dsimp only[h]|refine aD.c (by first|exact SO|exact HF|exact GR) ?_|refine aC ?_|fail
 refine aN.at dM (X:={zz:Nat×(Unit) // zz.1≤G.length∧True}) (fun zz=>[(10,.loc (.t 10 0) 0 zz.1.1),(35,.v (.int .i64 zz.1.1))]) (fun zz=>[(.t 10 0,.arr 2 (E cTt ((G.take zz.1.1).map fun g=>(txt (fH fr to (g.getD 0 [])),eX sf st g))) false)]) (fun zz=>G.length-zz.1.1) ⟨(0,()),by omega,trivial⟩ ?_ ?_
 ·simp[Vs.LeL,Vs.look,Vs.aB,Vs.aQ,Vs.aL,Vs.hset,Vs.aM,Vs.E]
 ·rintro⟨⟨i,_⟩,hi,hg⟩;dsimp only at hi hg;simp -dsimp only[go_sem,cC,cFd];refine Br.mk (fun hc=>?_) fun hc=>?_
  ·have hlt:i<G.length:=Dq;have hw:=aH hlt (by omega);obtain⟨g0,g1,g2⟩:=hgm _ (List.getElem_mem hlt);have hgi:(E cD G).getD i []=[.sl 1 (E cC G[i])]:=aS hlt;have SG:=aDp G[i] sf st (fun c hc=>hp c (g2 c hc)) (by omega);have hNg:rT sf st G[i]=true:=List.all_eq_true.2 fun c hc=>List.all_eq_true.1 hN c (g2 c hc);rw[show zA sf st G[i]=.sl 1 (E cI [eX sf st G[i]]) by simp[zA,hNg],hNg] at SG;have hm0:G[i].getD 0 []∈G[i]:=by rw[show G[i].getD 0 []=G[i][0] by simp[List.getD,g0]];exact List.getElem_mem g0
   have hg0:(E cC G[i]).getD 0 []=[.sl 1 (E cI (G[i].getD 0 []))]:=by rw[aS g0];simp[cC,List.getD,g0]
   have FT:=aC0 (G[i].getD 0 []) fr to (ho _ (g2 _ hm0)) (List.all_eq_true.1 hC _ (g2 _ hm0));have hs0:(E cI [eX sf st G[i]]).getD 0 []=[.v (.int .i64 (eX sf st G[i]))]:=rfl
   have hap:E cTt ((G.take i).map fun g=>(txt (fH fr to (g.getD 0 [])),eX sf st g))++[[.v (.string (txt (fH fr to (G[i].getD 0 [])))),.v (.int .i64 (eX sf st G[i]))]]=E cTt ((G.take (i+1)).map fun g=>(txt (fH fr to (g.getD 0 [])),eX sf st g)):=by
    rw[bJ hlt,List.map_append,aY];rfl
   have hal:(E cTt ((G.take i).map fun g=>(txt (fH fr to (g.getD 0 [])),eX sf st g))).length=i:=by rw[aI];simp;omega
   simp -dsimp only[go_sem,hgi,hg0,hs0,hw,hal,cC,cFd]
   repeat' first|simp -dsimp only[go_sem,hgi,hg0,hs0,hw,hap,hal,cC,cFd]|apply Br.mk<;>intro h<;>try simp -dsimp only[h]|refine aD.c (by first|exact SG|exact FT) ?_|refine aC ?_|fail
   all_goals first|omega|(exact nx (i+1,()) trivial (h2:=by simp[Vs.LeL,Vs.look,Vs.aB,Vs.aQ,Vs.aL,Vs.hset,Vs.aM,hap]))
  ·have hge:i=G.length:=by
    have:¬i<G.length:=Dq;omega
   subst hge;simp -dsimp only[go_sem,cC,cFd]
   have htk:(E cTt ((G.take G.length).map fun g=>(txt (fH fr to (g.getD 0 [])),eX sf st g))).take G.length=E cTt (G.map fun g=>(txt (fH fr to (g.getD 0 [])),eX sf st g)):=by
    rw[List.take_of_length_le (Nat.le_refl G.length)];exact List.take_of_length_le (by rw[aI];simp)
   first|exact⟨⟨_,_,rfl,rfl⟩,fun h=>h rfl⟩|(rw[htk];exact⟨⟨_,_,rfl,rfl⟩,fun h=>h rfl⟩)|(simp[htk];done)
theorem OfM.snocS {w w':World}{T:List (List (List Int))}{U:List (List Tot)}{tv sv ha Y:Value}{m:OM} (h:OfM w ⟨T,U⟩ tv sv m) (hs:w.heap.size≤w'.heap.size) (he:∀i b,i<m.TV.length→(m.M i).D b→w'.heap[b]? = w.heap[b]?) (hf:∀i b,i<m.SV.length→m.ys i=some b→w'.heap[b]? = w.heap[b]?)
  {xt xs J:Option Nat}{ct cx c6:Nat}{s:Sl}{t:List Tot} (o0:Vs.Own (fun _=>False) w' xt ct 1 (E sV m.TV) ha) (o1:Vs.Own (fun _=>False) w' xs cx 1 (E sV (m.SV++[s])) Y) (o6:Vs.Own (fun _=>False) w' J c6 2 (E cT t) (slW s))
  (h6:∀b,J=some b→(∀i,i<m.TV.length→¬(m.M i).D b)∧∀i,i<m.SV.length→m.ys i≠some b) (H:∀b,xt=some b→xs≠some b∧J≠some b∧(∀i,i<m.TV.length→¬(m.M i).D b)∧∀i,i<m.SV.length→m.ys i≠some b) (O:∀b,xs=some b→J≠some b∧(∀i,i<m.TV.length→¬(m.M i).D b)∧∀i,i<m.SV.length→m.ys i≠some b)
  (L:∀b,xt=some b∨xs=some b∨J=some b→b<w'.heap.size) :
  OfM w' ⟨T,U++[t]⟩ ha Y ⟨xt,ct,m.TV,m.M,xs,cx,m.SV++[s],fun j=>if j=(m.SV.map slW).length then J else m.ys j,fun j=>if j=(m.SV.map slW).length then c6 else m.cs j⟩:=by
 have hl:(m.SV.map slW).length=m.SV.length:=List.length_map _;have hc:=h.sl.mono (w':=w') (fun _ _ _ _ h=>h) fun i b hi F=>hf i b (by simpa using hi) F;have hd:=hc.snoc o6 (fun i b hi F e=>(h6 b e).2 i (by simpa using hi) F)
 have hy:∀j b,j<(m.SV++[s]).length→(if j=(m.SV.map slW).length then J else m.ys j)=some b→(J=some b)∨∃i,i<m.SV.length∧m.ys i=some b:=fun j b I F=>by
  split at F
  ·exact .inl F
  ·exact .inr ⟨j,by simp at I;omega,F⟩
 refine⟨o0,h.tn,fun i hi=>(h.dk i hi).same hs fun b F=>he i b hi F,h.tdis,fun i b hi F e=>(H b e).2.2.1 i hi F,o1,?_,fun j b I F e=>?_,fun b G h2=>?_,fun b F=>?_⟩
 ·show Vs.pM _ w' 2 ((U++[t]).map (E cT)) ((m.SV++[s]).map slW) _ _
  rw[List.map_append,List.map_append];exact hd
 ·rcases hy j b I F with g|⟨i,hi,g⟩
  ·exact(O b e).1 g
  ·exact(O b e).2.2 i hi g
 ·rcases G with G|⟨i,hi,G⟩<;>rcases h2 with h2|⟨j,I,h2⟩
  ·exact(H b G).1 h2
  ·rcases hy j b I h2 with g|⟨k,hk,g⟩
   ·exact(H b G).2.1 g
   ·exact(H b G).2.2.2 k hk g
  ·exact(O b h2).2.1 i hi G
  ·rcases hy j b I h2 with g|⟨k,hk,g⟩
   ·exact(h6 b g).1 i hi G
   ·exact h.dis b (.inr ⟨i,hi,G⟩) (.inr ⟨k,hk,g⟩)
 ·rcases F with(F|⟨i,hi,F⟩)|(F|⟨j,I,F⟩)
  ·exact L b (.inl F)
  ·exact Nat.lt_of_lt_of_le (h.lt b (.inl (.inr ⟨i,hi,F⟩))) hs
  ·exact L b (.inr (.inl F))
  ·rcases hy j b I F with g|⟨k,hk,g⟩
   ·exact L b (.inr (.inr g))
   ·exact Nat.lt_of_lt_of_le (h.lt b (.inr (.inr ⟨k,hk,g⟩))) hs
theorem aLq (V:List Sl) (i:Nat) (s:Sl):(E sV V).set i [.v (.slice s.1 s.2.1 s.2.2)]=E sV (V.set i s):=by simp[E,List.map_set,sV]
end
section
variable [Vs.Envs]
attribute [local irreducible] Vs.Fn aX mgC fI mtC eH mY mat rT dkC dkL jK iI fG wO chOK areCh chTo chAt l03 chB rk cd3 chI stp stpTo
theorem aIg {x:Stp}{o:Off} (F:dsC x o=0):fG x (wO o.trays)=true∧(x.kind=7→o.totals.length<20∧jK x.f0 x.f1 x.s0 x.s1 (tr o.trays x.a)=true)∧(x.kind≠7→dkC x (tr o.trays x.a) (tr o.trays x.b)=0):=by
 have H:fG x (wO o.trays)=true:=by
  unfold dsC at F;split at F
  ·assumption
  ·cases F
 refine⟨H,fun G=>?_,fun G=>by rw[aLa H G] at F;exact F⟩;rw[aJq H G] at F;split at F
 ·cases F
 ·split at F
  ·exact⟨by omega,by assumption⟩
  ·cases F
theorem aGh {c:Value}{vs:Array Value} (h:2=vs.size) (F:vs.getD 1 undef=c):vs=#[vs.getD 0 undef,c]:=by rw[qG h,F];rfl
end
end Go.Proofs.YtkgeiaideklmoaaGreat
