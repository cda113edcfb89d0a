/- Merging: the program and the reference. -/
import Derived.Test.YthfnpdhpefialaaGreatYwSq
import Derived.Test.YthfnpdhpefialaaGreatYwC
import Derived.Test.YthfnpdhpefialaaGreatYwK
import Derived.Test.YthfnpdhpefialaaGreatVtR
import Derived.Test.YthfnpdhpefialaaGreatYwSh
import Derived.Test.YthfnpdhpefialaaGreatYuR
import Derived.Test.YthfnpdhpefialaaGreatYwSm
set_option linter.all false
set_option maxHeartbeats 8000000
namespace Go.Proofs.YthfnpdhpefialaaGreat
open Go.Vs
section
variable [Vs.Envs]
attribute [local irreducible] Vs.Fn sumW numC grpAt grpTo chOK areCh chTo chAt l03 chB rk cd3 chI stp stpTo
theorem fieldText (a:List Int) (fr to:Int) (ha:okF fr to a) (hh:hasCh (fH fr to a)=true):Fz F.i_fieldText [.agg (cC a),.agg (cFd fr to)] (.v (.string (txt (fH fr to a)))):=by
 refine fn0 Cd.i_fieldText_k fun X=>?_
 repeat' first|simp -dsimp only[go_sem,cC,cFd,fH_E,List.replicate_succ,List.replicate_zero,List.flatten_cons,List.flatten_nil,List.cons_append,List.nil_append,List.set_cons_zero,List.set_cons_succ,List.length_cons,List.length_nil,List.length_set,List.getD_cons_zero]|apply Br.mk<;>intro h<;>try simp -dsimp only[h]|refine RgK.mk rfl ?_|refine CallK.c (by first|exact textOf _ (fH_le ha) hh) ?_|refine And.intro (by first|rfl|omega|decide|exact okF_b ha|exact okF_b hb|exact⟨rfl,okF_b ha⟩|exact⟨rfl,okF_b hb⟩|exact okF_b2 ha|exact okF_b2 hb|exact⟨rfl,okF_b2 ha⟩|exact⟨rfl,okF_b2 hb⟩|(refine⟨?_,?_⟩<;>(first|rfl|omega|decide|exact okF_b ha|exact okF_b hb|exact⟨rfl,okF_b ha⟩|exact⟨rfl,okF_b hb⟩|exact okF_b2 ha|exact okF_b2 hb|exact⟨rfl,okF_b2 ha⟩|exact⟨rfl,okF_b2 hb⟩))|(refine⟨?_,?_,?_⟩<;>(first|rfl|omega|decide|exact okF_b ha|exact okF_b hb|exact⟨rfl,okF_b ha⟩|exact⟨rfl,okF_b hb⟩|exact okF_b2 ha|exact okF_b2 hb|exact⟨rfl,okF_b2 ha⟩|exact⟨rfl,okF_b2 hb⟩))|(refine⟨?_,?_,?_,?_⟩<;>(first|rfl|omega|decide|exact okF_b ha|exact okF_b hb|exact⟨rfl,okF_b ha⟩|exact⟨rfl,okF_b hb⟩|exact okF_b2 ha|exact okF_b2 hb|exact⟨rfl,okF_b2 ha⟩|exact⟨rfl,okF_b2 hb⟩))) ?_|fail
 all_goals(simp_all)
theorem grpL_mem {fr to:Int}{l:List (List Int)}{g:List (List Int)} (h:g∈grpL fr to l):0<g.length∧g.length≤l.length∧∀c,c∈g→c∈l:=by
 unfold grpL at h
 obtain⟨i,hi,rfl⟩:=List.mem_map.1 h
 have hi:=List.mem_range.1 hi
 have hin:=grpTo_in (fr:=fr) (to:=to) (l:=l) l.length
 have hup:=grpTo_up (fr:=fr) (to:=to) (l:=l) l.length
 generalize grpTo fr to l l.length=s at *
 have h0:=hin _ (List.getElem_mem hi)
 have e:s.getD i 0=s[i]:=by simp[List.getD,hi]
 unfold grpAt
 rw[e]
 refine⟨?_,?_,fun c hc=>List.mem_of_mem_take (List.mem_of_mem_drop hc)⟩
 ·rw[List.length_drop,List.length_take]
  split
  ·rename_i h1
   have hs1:=hin _ (List.getElem_mem h1)
   have hlt2:s[i]<s[i+1]:=List.pairwise_iff_getElem.1 hup i (i+1) hi h1 (by omega)
   rw[show s.getD (i+1) 0=s[i+1] by simp[List.getD,h1]]
   omega
  ·omega
 ·rw[List.length_drop,List.length_take];omega
theorem grpL_len (fr to:Int) (l:List (List Int)):(grpL fr to l).length≤l.length:=by
 unfold grpL
 rw[List.length_map,List.length_range]
 exact grpTo_len fr to l l.length
def cTt (t:ByteArray×Int):List AV:=[.v (.string t.1),.v (.int .i64 t.2)]
def totL (fr to sf st:Int) (l:List (List Int)):List (ByteArray×Int):=(grpL fr to l).map fun g=>(txt (fH fr to (g.getD 0 [])),sumW sf st g)
def totB (fr to sf st:Int) (l:List (List Int)):Bool:=allN sf st l&&allCh fr to l
def totV (fr to sf st:Int) (l:List (List Int)):AV:=if totB fr to sf st l then .sl 2 (E cTt (totL fr to sf st l)) else .v (.slice none 0 0)
attribute [local irreducible] grpL
attribute [local go_sem] E_len List.replicate_succ List.replicate_zero List.flatten_cons List.flatten_nil List.cons_append List.nil_append List.set_cons_zero List.set_cons_succ List.length_cons List.length_nil List.length_set List.getD_cons_zero cD List.mem_singleton Vs.Name.t.injEq List.mem_cons List.not_mem_nil or_false false_or in
theorem totalsOf (l:List (List Int)) (fr to sf st:Int) (ho:∀c,c∈l→okF fr to c) (hp:∀c,c∈l→okP sf st c) (hl:l.length≤1048576):Fz F.i_totalsOf [.sl 1 (E cC l),.agg (cFd fr to),.agg (cFd sf st)] (.tup [totV fr to sf st l,.v (.int .i64 (if totB fr to sf st l then 0 else 8))]):=by
 have SO:=sumsOf l sf st hp hl
 have HF:=haveField l fr to ho hl
 have GR:=groups l fr to ho hl
 cases hN:allN sf st l
 ·rw[hN] at SO
  have hb:totB fr to sf st l=false:=by simp[totB,hN]
  rw[show totV fr to sf st l=.v (.slice none 0 0) by simp[totV,hb],hb]
  refine fn0 Cd.i_totalsOf_k fun X=>?_
  repeat' first|simp -dsimp only[go_sem,cC,cFd]|apply Br.mk<;>intro h<;>try simp -dsimp only[h]|refine CallK.c (by first|exact SO|exact HF) ?_|refine aC ?_|fail
  all_goals first|exact⟨_,_,rfl,rfl⟩|simp
 rw[hN] at SO
 cases hC:allCh fr to l
 ·rw[hC] at HF
  have hb:totB fr to sf st l=false:=by simp[totB,hC]
  rw[show totV fr to sf st l=.v (.slice none 0 0) by simp[totV,hb],hb]
  refine fn0 Cd.i_totalsOf_k fun X=>?_
  repeat' first|simp -dsimp only[go_sem,cC,cFd]|apply Br.mk<;>intro h<;>try simp -dsimp only[h]|refine CallK.c (by first|exact SO|exact HF) ?_|refine aC ?_|fail
  all_goals first|exact⟨_,_,rfl,rfl⟩|simp
 rw[hC] at HF
 have hb:totB fr to sf st l=true:=by simp[totB,hN,hC]
 rw[show totV fr to sf st l=.sl 2 (E cTt (totL fr to sf st l)) by simp[totV,hb],hb]
 have hgm:∀g,g∈grpL fr to l→0<g.length∧g.length≤l.length∧∀c,c∈g→c∈l:=fun g hg=>grpL_mem hg
 have hGl:=grpL_len fr to l
 unfold totL
 generalize grpL fr to l=G at *
 refine fn0 Cd.i_totalsOf_k fun X=>?_
 repeat' first|simp -dsimp only[go_sem,cC,cFd]|apply Br.mk<;>intro h<;>try simp -dsimp only[h]|refine CallK.c (by first|exact SO|exact HF|exact GR) ?_|refine aC ?_|fail
 refine LoopK.at dM (X:={zz:Nat×(Unit) // zz.1≤G.length∧True}) (fun zz=>[(10,.loc (.t 10 0) 0 zz.1.1),(35,.v (.int .i64 zz.1.1))]) (fun zz=>[(.t 10 0,.arr 2 (E cTt ((G.take zz.1.1).map fun g=>(txt (fH fr to (g.getD 0 [])),sumW sf st g))) false)]) (fun zz=>G.length-zz.1.1) ⟨(0,()),by omega,trivial⟩ ?_ ?_
 ·simp[Vs.LeL,Vs.look,Vs.hlook,Vs.sput,Vs.sputs,Vs.hset,Vs.hputs,Vs.E]
 ·rintro⟨⟨i,_⟩,hi,hg⟩
  dsimp only at hi hg
  simp -dsimp only[go_sem,cC,cFd]
  refine Br.mk (fun hc=>?_) fun hc=>?_
  ·have hlt:i<G.length:=Dq
   have hw:=wrap_succ hlt (by omega)
   obtain⟨g0,g1,g2⟩:=hgm _ (List.getElem_mem hlt)
   have hgi:(E cD G).getD i []=[.sl 1 (E cC G[i])]:=E_get hlt
   have SG:=sumsOf G[i] sf st (fun c hc=>hp c (g2 c hc)) (by omega)
   have hNg:allN sf st G[i]=true:=List.all_eq_true.2 fun c hc=>List.all_eq_true.1 hN c (g2 c hc)
   rw[show sumsV sf st G[i]=.sl 1 (E cI [sumW sf st G[i]]) by simp[sumsV,hNg],hNg] at SG
   have hm0:G[i].getD 0 []∈G[i]:=by rw[show G[i].getD 0 []=G[i][0] by simp[List.getD,g0]];exact List.getElem_mem g0
   have hg0:(E cC G[i]).getD 0 []=[.sl 1 (E cI (G[i].getD 0 []))]:=by rw[E_get g0];simp[cC,List.getD,g0]
   have FT:=fieldText (G[i].getD 0 []) fr to (ho _ (g2 _ hm0)) (List.all_eq_true.1 hC _ (g2 _ hm0))
   have hs0:(E cI [sumW sf st G[i]]).getD 0 []=[.v (.int .i64 (sumW sf st G[i]))]:=rfl
   have hap:E cTt ((G.take i).map fun g=>(txt (fH fr to (g.getD 0 [])),sumW sf st g))++[[.v (.string (txt (fH fr to (G[i].getD 0 [])))),.v (.int .i64 (sumW sf st G[i]))]]=E cTt ((G.take (i+1)).map fun g=>(txt (fH fr to (g.getD 0 [])),sumW sf st g)):=by
    rw[take_succ hlt,List.map_append,E_append];rfl
   have hal:(E cTt ((G.take i).map fun g=>(txt (fH fr to (g.getD 0 [])),sumW sf st g))).length=i:=by rw[E_len];simp;omega
   simp -dsimp only[go_sem,hgi,hg0,hs0,hw,hal,cC,cFd]
   repeat' first|simp -dsimp only[go_sem,hgi,hg0,hs0,hw,hap,hal,cC,cFd]|apply Br.mk<;>intro h<;>try simp -dsimp only[h]|refine CallK.c (by first|exact SG|exact FT) ?_|refine aC ?_|fail
   all_goals first|omega|(exact nx (i+1,()) trivial (h2:=by simp[Vs.LeL,Vs.look,Vs.hlook,Vs.sput,Vs.sputs,Vs.hset,Vs.hputs,hap]))
  ·have hge:i=G.length:=by
    have:¬i<G.length:=Dq
    omega
   subst hge
   simp -dsimp only[go_sem,cC,cFd]
   have htk:(E cTt ((G.take G.length).map fun g=>(txt (fH fr to (g.getD 0 [])),sumW sf st g))).take G.length=E cTt (G.map fun g=>(txt (fH fr to (g.getD 0 [])),sumW sf st g)):=by
    rw[List.take_of_length_le (Nat.le_refl G.length)];exact List.take_of_length_le (by rw[E_len];simp)
   first|exact⟨⟨_,_,rfl,rfl⟩,fun h=>h rfl⟩|(rw[htk];exact⟨⟨_,_,rfl,rfl⟩,fun h=>h rfl⟩)|(simp[htk];done)
end
section
variable [Vs.Envs]
attribute [local irreducible] Vs.Fn chOK areCh chTo chAt l03 chB rk cd3 chI stp stpTo
theorem blankO (w:Nat) (hw:w≤1000):Vs.Fn Tryz.prog F.i_blank [] [.v (.int .i64 w)] (.agg [.loc (.b 0) 0 w]) [some (.arr 1 (List.replicate w [.v (.int .i64 0)]) false)]:=by
 have hz:((w:Int)).toNat=w:=by omega
 refine fn1 Cd.i_blank_k [.t 4 0] [.arr 1 (List.replicate w [.v (.int .i64 0)]) false] fun X=>?_
 unfold Cd.i_blank
 repeat' first|simp -dsimp only[go_sem,E_len,List.set_cons_zero,List.set_cons_succ,List.length_cons,List.length_nil,List.length_set,List.length_replicate,List.flatMap_cons,List.flatMap_nil,cellN,topN,nestN,List.getD_cons_zero,List.append_nil,List.nil_append,List.cons_append,hz]|apply Br.mk<;>intro h<;>try simp -dsimp only[h]|refine aC ?_|fail
 all_goals first|exact⟨_,_,rfl,rfl⟩
def bcd (s:ByteArray):List Int:=s.data.toList.map fun b=>cd3 (b.toNat:Int)
def punTo (s:ByteArray) (w i:Nat):List Int:=(bcd s).take i++List.replicate (w-i) 0
def pun (s:ByteArray) (w:Nat):List Int:=bcd s++List.replicate (w-s.size) 0
theorem bcd_len (s:ByteArray):(bcd s).length=s.size:=by simp[bcd]
theorem punTo_zero (s:ByteArray) (w:Nat):E cI (punTo s w 0)=List.replicate w [.v (.int .i64 0)]:=by simp[punTo,E,cI]
theorem punTo_full (s:ByteArray) (w:Nat):punTo s w s.size=pun s w:=by
 unfold punTo pun
 rw[List.take_of_length_le (by rw[bcd_len];exact Nat.le_refl _)]
theorem punTo_len {s:ByteArray}{w i:Nat} (h:i≤s.size) (hw:s.size≤w):(punTo s w i).length=w:=by
 have:=bcd_len s
 simp[punTo];omega
theorem punTo_set {s:ByteArray}{w i:Nat} (h:i<s.size) (hw:s.size≤w):(E cI (punTo s w i)).set i [.v (.int .i64 (cd3 ((s.data.toList.getD i 0).toNat:Int)))]=E cI (punTo s w (i+1)):=by
 have hl:=bcd_len s
 have hib:i<(bcd s).length:=by omega
 have hA:((bcd s).take i).length=i:=by simp;omega
 have hb:(bcd s)[i]=cd3 ((s.data.toList.getD i 0).toNat:Int):=by
  have hi2:i<s.data.toList.length:=by simpa[bcd] using hib
  have e2:s.data.toList.getD i 0=s.data.toList[i]:=by rw[List.getD_eq_getElem?_getD,List.getElem?_eq_getElem hi2];rfl
  rw[e2];simp[bcd]
 have e:(punTo s w i).set i (cd3 ((s.data.toList.getD i 0).toNat:Int))=punTo s w (i+1):=by
  unfold punTo
  rw[show w-i=(w-(i+1))+1 by omega,List.replicate_succ,List.set_append,if_neg (by omega),hA,Nat.sub_self,List.set_cons_zero,take_succ hib,hb]
  simp
 rw[←e]
 simp[E,List.map_set,cI]
attribute [local irreducible] punTo
attribute [local go_sem] E_len List.set_cons_zero List.set_cons_succ List.length_cons List.length_nil List.length_set List.length_replicate List.flatMap_cons List.flatMap_nil cellN topN nestN List.getD_cons_zero List.append_nil List.nil_append List.cons_append in
theorem punchText (s:ByteArray) (w:Nat) (hw:w≤1000) (hs:s.size≤w):Fz F.i_punchText [.v (.string s),.v (.int .i64 w)] (.agg [.sl 1 (E cI (pun s w))]):=by
 have BL:=blankO w hw
 refine fn0 Cd.i_punchText_k fun X=>?_
 simp -dsimp only[go_sem]
 refine CallK.own BL rfl ?_
 repeat' first|simp -dsimp only[go_sem]|apply Br.mk<;>intro h<;>try simp -dsimp only[h]|refine aC ?_|fail
 refine LoopK.at dM (X:={zz:Nat×(Unit) // zz.1≤s.size∧True}) (fun zz=>[(6,.v (.int .i64 zz.1.1))]) (fun zz=>[(.t 8 0,.arr 1 (E cI (punTo s w zz.1.1)) false)]) (fun zz=>s.size-zz.1.1) ⟨(0,()),by omega,trivial⟩ ?_ ?_
 ·simp[Vs.LeL,Vs.look,Vs.hlook,Vs.sput,Vs.sputs,Vs.hset,Vs.hputs,punTo_zero]
 ·rintro⟨⟨i,_⟩,hi,hg⟩
  dsimp only at hi hg
  simp -dsimp only[go_sem]
  refine Br.mk (fun hc=>?_) fun hc=>?_
  ·have hlt:i<s.size:=Dq
   have hw:=wrap_succ hlt (by omega)
   have hps:=punTo_set (w:=w) hlt hs
   have hpl:(E cI (punTo s w i)).length=w:=by rw[E_len];exact punTo_len (by omega) hs
   have CO:=codeOf ((s.data.toList.getD i 0).toNat:Int)
   have hrow:∃y,(E cI (punTo s w i)).getD i []=[y]:=by
    have hil:i<(punTo s w i).length:=by rw[punTo_len (by omega) hs];omega
    exact⟨.v (.int .i64 (punTo s w i)[i]),by rw[E_get hil];rfl⟩
   obtain⟨y,hy⟩:=hrow
   repeat' first|simp -dsimp only[go_sem,hw,hps,hpl,hy]|apply Br.mk<;>intro h<;>try simp -dsimp only[h]|refine CallK.c (by first|exact CO) ?_|refine aC ?_|fail
   all_goals first|omega|(exact nx (i+1,()) trivial (h2:=by simp[Vs.LeL,Vs.look,Vs.hlook,Vs.sput,Vs.sputs,Vs.hset,Vs.hputs,hps]))
  ·have hge:i=s.size:=by
    have:¬i<s.size:=Dq
    omega
   subst hge
   simp -dsimp only[go_sem]
   have hpf:=punTo_full s w
   have hpl:(E cI (pun s w)).length=w:=by rw[E_len,←hpf];exact punTo_len (Nat.le_refl _) hs
   have htk:(E cI (pun s w)).take w=E cI (pun s w):=List.take_of_length_le (by omega)
   first|(rw[hpf,htk];exact⟨⟨_,_,rfl,rfl⟩,fun h=>h rfl⟩)|(simp[hpf,htk];done)
end
section
variable [Vs.Envs]
attribute [local irreducible] Vs.Fn pun chOK areCh chTo chAt l03 chB rk cd3 chI stp stpTo
theorem pun_len {s:ByteArray}{w:Nat} (h:s.size≤w):(pun s w).length=w:=by rw[←punTo_full];exact punTo_len (Nat.le_refl _) h
def cmT (fr to:Int) (c:List Int) (s:ByteArray):Int:=cmpR (fH fr to c) (pun s (to.toNat-fr.toNat))
theorem compareText (a:List Int) (fr to:Int) (s:ByteArray) (ha:okF fr to a) (hs:s.size≤to.toNat-fr.toNat):Fz F.i_compareText [.agg (cC a),.agg (cFd fr to),.v (.string s)] (.v (.int .i64 (cmT fr to a s))):=by
 have hf:=fH_len ha
 have h3:=ha
 obtain⟨h0,h1,h2,h20⟩:=h3
 have PT:=punchText s (to.toNat-fr.toNat) (by omega) hs
 have hw:IntKind.i64.wrap (to-fr)=((to.toNat-fr.toNat:Nat):Int):=by rw[wrap_in (by omega) (by omega)];omega
 have CH:=compareHoles (fH fr to a) (pun s (to.toNat-fr.toNat)) (fH_le ha) (by rw[hf,pun_len hs])
 rw[show cmpR (fH fr to a) (pun s (to.toNat-fr.toNat))=cmT fr to a s from rfl] at CH
 refine fn0 Cd.i_compareText_k fun X=>?_
 repeat' first|simp -dsimp only[go_sem,cC,cFd,fH_E,List.set_cons_zero,List.set_cons_succ,List.length_cons,List.length_nil,hw]|apply Br.mk<;>intro h<;>try simp -dsimp only[h]|refine RgK.mk rfl ?_|refine CallK.c (by first|exact PT|exact CH) ?_|refine And.intro (by first|rfl|omega|decide|exact okF_b ha|exact⟨rfl,okF_b ha⟩|exact okF_b2 ha|exact⟨rfl,okF_b2 ha⟩|(refine⟨?_,?_⟩<;>(first|rfl|omega|decide|exact okF_b ha|exact⟨rfl,okF_b ha⟩|exact okF_b2 ha|exact⟨rfl,okF_b2 ha⟩))|(refine⟨?_,?_,?_⟩<;>(first|rfl|omega|decide|exact okF_b ha|exact⟨rfl,okF_b ha⟩|exact okF_b2 ha|exact⟨rfl,okF_b2 ha⟩))|(refine⟨?_,?_,?_,?_⟩<;>(first|rfl|omega|decide|exact okF_b ha|exact⟨rfl,okF_b ha⟩|exact okF_b2 ha|exact⟨rfl,okF_b2 ha⟩))) ?_|fail
 all_goals first|exact⟨_,_,rfl,rfl⟩|simp
end
section
variable [Vs.Envs]
attribute [local irreducible] Vs.Fn pun cmT flt zR chOK areCh chTo chAt l03 chB rk cd3 chI stp stpTo
def offT (fr to:Int) (s:ByteArray) (c:List Int):Bool:=decide (cmT fr to c s<0)||decide (cmT fr to c s>0)
theorem sel1 (x:List Int) (fr to:Int) (s:ByteArray) (hx:okF fr to x) (hs:s.size≤to.toNat-fr.toNat):Fz F.i_SelectBetween_1 [.agg (cC x),.ro (cFd fr to),.ro [.v (.string s)],.ro [.v (.string s)]] (.v (.bool (offT fr to s x))):=by
 have CT:=compareText x fr to s hx hs
 unfold offT
 generalize cmT fr to x s=v at *
 refine fn0 Cd.i_SelectBetween_1_k fun X=>?_
 repeat' first|simp -dsimp only[go_sem,cC,cFd,List.replicate_succ,List.replicate_zero,List.flatten_cons,List.flatten_nil,List.cons_append,List.nil_append,List.set_cons_zero,List.set_cons_succ,List.length_cons,List.length_nil,List.length_set]|apply Br.mk<;>intro h<;>try simp -dsimp only[h]|refine CallK.c (by first|exact CT) ?_|refine aC ?_|fail
 all_goals first|exact⟨_,_,rfl,rfl⟩|(rw[h,Bool.false_or];exact⟨_,_,rfl,rfl⟩)
def selC (fr to:Int) (s:ByteArray) (l:List (List Int)):Int:=colT fr to [s,s] [l]
def selV (fr to:Int) (s:ByteArray) (l:List (List Int)):AV:=if selC fr to s l=0 then .sl 1 (E cC (flt (offT fr to s) l)) else .v (.slice none 0 0)
theorem selC_ok {fr to:Int}{s:ByteArray}{l:List (List Int)} (h:selC fr to s l=0):deckB l=true∧fldB fr to (widB l)=true∧((s.size:Int)==W (to-fr))=true∧areCh s=true∧allCh fr to l=true:=by
 unfold selC colT at h
 cases h1:deckB l<;>cases h2:fldB fr to (widB l)<;>cases h3:((s.size:Int)==W (to-fr))<;>cases h4:areCh s<;>cases h5:allCh fr to l<;>simp[h1,h2,h3,h4,h5] at h⊢
theorem selectBetween (l:List (List Int)) (fr to:Int) (s:ByteArray) (hk:smallC l) (hz:s.size≤1048576):Fz F.i_SelectBetween [.sl 1 (E cC l),.agg (cFd fr to),.v (.string s),.v (.string s)] (.tup [selV fr to s l,.v (.int .i64 (selC fr to s l))]):=by
 have CC:=collateT fr to [l] ⟨by simp,fun d hd=>by simp at hd;subst hd;exact hk⟩ [s,s] (by simp) (fun t ht=>by simp at ht;subst ht;exact hz)
 rw[show colT fr to [s,s] [l]=selC fr to s l from rfl] at CC
 by_cases h0:selC fr to s l=0
 ·obtain⟨hd,hf,hsz,hch,hall⟩:=selC_ok h0
  have ho:=okF_of hd hf
  rw[show selV fr to s l=.sl 1 (E cC (flt (offT fr to s) l)) by simp[selV,h0],h0]
  rw[h0] at CC
  have hsn:∀x,x∈l→s.size≤to.toNat-fr.toNat:=fun x hx=>by
   have hz2:((s.size:Int))=W (to-fr):=by simpa using hsz
   obtain⟨f0,f1,f2,f3⟩:=ho x hx
   rw[show W (to-fr)=to-fr from wrap_in (by omega) (by omega)] at hz2
   omega
  have hd2:=delF (offT fr to s) F.i_SelectBetween_1 [.ro (cFd fr to),.ro [.v (.string s)],.ro [.v (.string s)]] rfl l hk.1 (fun x hx=>sel1 x fr to s (ho x hx) (hsn x hx))
  refine fn0 Cd.i_SelectBetween_k fun X=>?_
  repeat' first|simp -dsimp only[go_sem,cC,cFd,List.replicate_succ,List.replicate_zero,List.flatten_cons,List.flatten_nil,List.cons_append,List.nil_append,List.set_cons_zero,List.set_cons_succ,List.length_cons,List.length_nil,List.length_set]|apply Br.mk<;>intro h<;>try simp -dsimp only[h]|refine CallK.c (by first|exact CC) ?_|refine aC ?_|fail
  refine CallK.own (newDeck l hk.2 hk.1) rfl ?_
  simp -dsimp only[go_sem,cC,cFd,List.replicate_succ,List.replicate_zero,List.flatten_cons,List.flatten_nil,List.cons_append,List.nil_append,List.set_cons_zero,List.set_cons_succ,List.length_cons,List.length_nil,List.length_set,List.flatMap_cons,List.flatMap_nil,cellN,topN,nestN,List.getD_cons_zero,List.append_nil,List.mem_singleton,List.mem_cons,List.not_mem_nil,or_false,false_or,Vs.Name.t.injEq]
  refine⟨rfl,CallK.borL hd2 rfl ?_⟩
  simp -dsimp only[go_sem,cC,cFd,List.replicate_succ,List.replicate_zero,List.flatten_cons,List.flatten_nil,List.cons_append,List.nil_append,List.set_cons_zero,List.set_cons_succ,List.length_cons,List.length_nil,List.length_set,List.flatMap_cons,List.flatMap_nil,cellN,topN,nestN,List.getD_cons_zero,List.append_nil,List.mem_singleton,List.mem_cons,List.not_mem_nil,or_false,false_or,Vs.Name.t.injEq]
  have hr:=row_take (flt (offT fr to s) l) (l.length-(flt (offT fr to s) l).length)
  have hlen:(flt (offT fr to s) l).length≤l.length:=flt_len ..
  simp -dsimp only[go_sem,List.getElem?_cons_zero,List.drop_zero,E_len,List.length_append,hr]
  first|exact⟨_,_,rfl,rfl⟩
 ·have e0:(selC fr to s l != 0)=true:=by simp[h0]
  rw[show selV fr to s l=.v (.slice none 0 0) by simp[selV,h0]]
  generalize selC fr to s l=c at *
  refine fn0 Cd.i_SelectBetween_k fun X=>?_
  repeat' first|simp -dsimp only[go_sem,cC,cFd,List.replicate_succ,List.replicate_zero,List.flatten_cons,List.flatten_nil,List.cons_append,List.nil_append,List.set_cons_zero,List.set_cons_succ,List.length_cons,List.length_nil,List.length_set,e0]|apply Br.mk<;>intro h<;>try simp -dsimp only[h]|refine CallK.c (by first|exact CC) ?_|refine aC ?_|fail
  all_goals first|exact⟨_,_,rfl,rfl⟩
theorem impl_SelectEqual (l:List (List Int)) (fr to:Int) (s:ByteArray) (hk:smallC l) (hz:s.size≤1048576):Fz F.i_SelectEqual [.sl 1 (E cC l),.agg (cFd fr to),.v (.string s)] (.tup [selV fr to s l,.v (.int .i64 (selC fr to s l))]):=by
 have SB:=selectBetween l fr to s hk hz
 have hv:selV fr to s l=.sl 1 (E cC (flt (offT fr to s) l))∨selV fr to s l=.v (.slice none 0 0):=by unfold selV;split<;>simp
 generalize selC fr to s l=c at *
 rcases hv with hv|hv<;>rw[hv] at SB⊢
 all_goals
  refine fn0 Cd.i_SelectEqual_k fun X=>?_
  repeat' first|simp -dsimp only[go_sem,cC,cFd,List.replicate_succ,List.replicate_zero,List.flatten_cons,List.flatten_nil,List.cons_append,List.nil_append,List.set_cons_zero,List.set_cons_succ,List.length_cons,List.length_nil,List.length_set]|apply Br.mk<;>intro h<;>try simp -dsimp only[h]|refine CallK.c (by first|exact SB) ?_|refine aC ?_|fail
  all_goals first|exact⟨_,_,rfl,rfl⟩
end
section
variable [Vs.Envs]
attribute [local irreducible] Vs.Fn pun cmT flt zR chOK areCh chTo chAt l03 chB rk cd3 chI stp stpTo
end
section
variable [Vs.Envs]
attribute [local irreducible] Vs.Fn pun cmT zR chOK areCh chTo chAt l03 chB rk cd3 chI stp stpTo
theorem okP_of {l:List (List Int)}{fr to:Int} (hd:deckB l=true) (hn:numB fr to (widB l)=true):∀c,c∈l→okP fr to c:=by
 intro c hc
 unfold numB at hn
 rw[Bool.and_eq_true] at hn
 obtain⟨h0,h1,h2,h3⟩:=okF_of hd hn.1 c hc
 have hw:=hn.2
 rw[show W (to-fr)=to-fr from wrap_in (by omega) (by omega)] at hw
 simp only[deckB,Bool.and_eq_true,List.all_eq_true,decide_eq_true_eq] at hd
 obtain⟨hcb,hcl⟩:=hd.1 c hc
 simp only[cardB,inB,Bool.and_eq_true,List.all_eq_true,decide_eq_true_eq] at hcb
 exact⟨h0,h1,h2,by simpa using hw,h3,fun y hy=>hcb.1 y hy⟩
theorem srtL_mem {fr to:Int}{l:List (List Int)} (ho:∀c,c∈l→okF fr to c) (hl:l.length≤40):∀c,c∈srtL fr to l→c∈l:=by
 intro c hc
 obtain⟨i,hi,rfl⟩:=List.mem_map.1 hc
 exact mem_get (ordL_in ho hl i hi)
theorem srtL_len (fr to:Int) (l:List (List Int)):(srtL fr to l).length=l.length:=by unfold srtL;rw[List.length_map,ordL_len]
end
section
variable [Vs.Envs]
attribute [local irreducible] Vs.Fn chOK areCh chTo chAt l03 chB rk cd3 chI stp stpTo
attribute [local go_sem] cFd E_len List.replicate_succ List.replicate_zero List.flatten_cons List.flatten_nil List.cons_append List.nil_append List.set_cons_zero List.set_cons_succ List.length_cons List.length_nil List.length_set in
theorem l02Copy (l:List (List Int)) (hk:smallC l):Fz F.s_l02Copy [.sl 1 (E cC l)] (.sl 1 (E cC l)):=by
 refine fn0 Cd.s_l02Copy_k fun X=>?_
 repeat' first|simp -dsimp only[go_sem,cC]|apply Br.mk<;>intro h<;>try simp -dsimp only[h]|refine aC ?_|fail
 refine LoopK.at dM (X:={zz:Nat×(Unit) // zz.1≤l.length∧True}) (fun zz=>[(3,.loc (.t 3 0) 0 zz.1.1),(4,.v (.int .i64 zz.1.1))]) (fun zz=>[(.t 3 0,.arr 1 (E cC (l.take zz.1.1)) false)]) (fun zz=>l.length-zz.1.1) ⟨(0,()),by omega,trivial⟩ ?_ ?_
 ·simp[Vs.LeL,Vs.look,Vs.hlook,Vs.sput,Vs.sputs,Vs.hset,Vs.hputs,Vs.E]
 ·rintro⟨⟨i,_⟩,hi,hg⟩
  dsimp only at hi hg
  simp -dsimp only[go_sem,cC]
  refine Br.mk (fun hc=>?_) fun hc=>?_
  ·have hlt:i<l.length:=Dq
   have hw:=wrap_succ hlt (hk.1)
   have hm:(E cC l).getD i []=[.sl 1 (E cI l[i])]:=E_get hlt
   have NC:=l02Own l[i] (hk.2 _ (List.getElem_mem hlt))
   have hap:E cC (l.take i)++[[.sl 1 (E cI l[i])]]=E cC (l.take (i+1)):=by rw[take_succ hlt,E_append];rfl
   have hal:(E cC (l.take i)).length=i:=by rw[E_len];simp;omega
   have hl:=hk.1
   repeat' first|simp -dsimp only[go_sem,hm,hw,hap,hal,cC]|apply Br.mk<;>intro h<;>try simp -dsimp only[h]|refine CallK.c (by first|exact NC) ?_|refine aC ?_|fail
   all_goals first|omega|(exact nx (i+1,()) trivial (h2:=by simp[Vs.LeL,Vs.look,Vs.hlook,Vs.sput,Vs.sputs,Vs.hset,Vs.hputs,hap]))
  ·have hge:i=l.length:=by
    have:¬i<l.length:=Dq
    omega
   subst hge
   simp -dsimp only[go_sem,cC]
   have htk:(E cC (l.take l.length)).take l.length=E cC l:=by
    rw[List.take_of_length_le (Nat.le_refl l.length)];exact List.take_of_length_le (by rw[E_len];exact Nat.le_refl _)
   first|exact⟨⟨_,_,rfl,rfl⟩,fun h=>h rfl⟩|(rw[htk];exact⟨⟨_,_,rfl,rfl⟩,fun h=>h rfl⟩)|(simp[htk];done)
end
section
variable [Vs.Envs]
attribute [local irreducible] Vs.Fn chOK areCh chTo chAt l03 chB rk cd3 chI stp stpTo stb ordL mgK mgI skp ascB stF keyC colC
theorem cC_at {l:List (List Int)}{i:Nat} (h:i<l.length):(E cC l).getD i []=[.sl 1 (E cI (l.getD i []))]:=by rw[E_get h];simp[cC,List.getD,h]
theorem key_getD {fr to:Int}{l:List (List Int)}{i:Nat} (h:i<l.length):(E cSt (keyL fr to l)).getD i []=[.v (.string (txt (fH fr to (l.getD i []))))]:=by
 rw[E_get (by simpa[keyL] using h)];simp[cSt,keyL,List.getD,h]
theorem mem_nat {l:List (List Int)}{i:Nat} (h:i<l.length):l.getD i []∈l:=by rw[show l.getD i []=l[i] by simp[List.getD,h]];exact List.getElem_mem h
theorem E_snoc (G:Int→List Int) (p:List Int) (x:Int):E cC (p.map G)++[[.sl 1 (E cI (G x))]]=E cC ((p++[x]).map G):=by rw[List.map_append,E_append];rfl
attribute [local go_sem] cFd cD List.replicate_succ List.replicate_zero List.flatten_cons List.flatten_nil List.cons_append List.nil_append List.set_cons_zero List.set_cons_succ List.length_cons List.length_nil List.length_set E_len in
theorem l09Merge (a b:List (List Int)) (fr to:Int) (ha:smallC a) (hb:smallC b) (oa:∀c,c∈a→okF fr to c) (ob:∀c,c∈b→okF fr to c) (ca:allCh fr to a=true) (cb:allCh fr to b=true) (h40:a.length+b.length≤40) :
  Fz F.s_l09Merge [.sl 1 (E cC a),.sl 1 (E cC b),.sl 1 (E cSt (keyL fr to a)),.sl 1 (E cSt (keyL fr to b))] (.sl 1 (E cC ((mgF (cfO fr to (a++b)) a.length b.length).map fun i=>(a++b).getD i.toNat []))):=by
 have hkl:=keyL_len fr to a
 have hkm:=keyL_len fr to b
 have hcmp:∀i k:Nat,i<a.length→k<b.length→Fz F.s_l03Compare [.v (.string (txt (fH fr to (b.getD k [])))),.v (.string (txt (fH fr to (a.getD i []))))] (.v (.int .i64 (cfO fr to (a++b) ((a.length+k:Nat):Int) (i:Int)))):=by
  intro i k hi hk
  have e:cfO fr to (a++b) ((a.length+k:Nat):Int) (i:Int)=cmpR (fH fr to (b.getD k [])) (fH fr to (a.getD i [])):=by
   unfold cfO
   rw[Int.toNat_natCast,Int.toNat_natCast,app_l hi,app_r];rfl
  rw[e]
  have m1:=mem_nat hi
  have m2:=mem_nat hk
  exact l03Compare _ _ (fH_le (ob _ m2)) ((fH_len (ob _ m2)).trans (fH_len (oa _ m1)).symm) (List.all_eq_true.1 cb _ m2) (List.all_eq_true.1 ca _ m1)
 have gA:∀i:Nat,i<a.length→(fun i:Int=>(a++b).getD i.toNat []) (i:Int)=a.getD i []:=fun i hi=>by show(a++b).getD (i:Int).toNat []=_;rw[Int.toNat_natCast,app_l hi]
 have gB:∀j:Nat,(fun i:Int=>(a++b).getD i.toNat []) ((a.length+j:Nat):Int)=b.getD j []:=fun j=>by show(a++b).getD ((a.length+j:Nat):Int).toNat []=_;rw[Int.toNat_natCast,app_r]
 have hdr:∀k,k≤b.length→(rng (a.length+k) (b.length-k)).map (fun i=>(a++b).getD i.toNat [])=b.drop k:=by
  intro k hk
  apply List.ext_getElem
  ·simp[rng_len]
  ·intro j h1 h2
   simp only[List.length_map,rng_len] at h1
   simp only[rng,List.getElem_map,List.getElem_range',List.getElem_drop,Nat.one_mul]
   have g2:=gB (k+j)
   simp only at g2
   rw[show a.length+k+j=a.length+(k+j) by omega,g2]
   simp[List.getD,(by omega:k+j<b.length)]
 generalize(fun i:Int=>(a++b).getD i.toNat [])=G at *
 generalize cfO fr to (a++b)=cf at *
 refine fn0 Cd.s_l09Merge_k fun X=>?_
 repeat' first|simp -dsimp only[go_sem,cC,hkl,hkm]|apply Br.mk<;>intro h<;>try simp -dsimp only[h]|refine aC ?_|fail
 refine LoopK.at dM (X:={zz:Nat×(Unit) // zz.1≤a.length∧True}) (fun zz=>[(9,.loc (.t 9 0) 0 (mgI cf a.length b.length zz.1.1).length),(10,.v (.int .i64 (mgK cf a.length b.length zz.1.1:Nat))),(11,.v (.int .i64 zz.1.1))]) (fun zz=>[(.t 9 0,.arr 1 (E cC ((mgI cf a.length b.length zz.1.1).map G)) false)]) (fun zz=>a.length-zz.1.1) ⟨(0,()),by omega,trivial⟩ ?_ ?_
 ·simp[Vs.LeL,Vs.look,Vs.hlook,Vs.sput,Vs.sputs,Vs.hset,Vs.hputs,Vs.E,mgI,mgK]
 ·rintro⟨⟨i,_⟩,hi,hg⟩
  dsimp only at hi hg
  simp -dsimp only[go_sem,cC,hkl,hkm]
  refine Br.mk (fun hc=>?_) fun hc=>?_
  ·have hlt:i<a.length:=Dq
   have hw:=wrap_succ hlt (by omega)
   have hki:=mgK_le cf a.length b.length i
   have hki1:=mgK_le cf a.length b.length (i+1)
   have hkg:=mgK_ge cf a.length b.length i
   have hli:=mgI_len cf a.length b.length i
   have hli1:=mgI_len cf a.length b.length (i+1)
   have hs0:skp cf a.length i (b.length-mgK cf a.length b.length i) (mgK cf a.length b.length i)=mgK cf a.length b.length (i+1):=by rw[mgK]
   have hmI:mgI cf a.length b.length (i+1)=mgI cf a.length b.length i++rng (a.length+mgK cf a.length b.length i) (mgK cf a.length b.length (i+1)-mgK cf a.length b.length i)++[(i:Int)]:=by rw[mgI]
   have hga:=gA i hlt
   have xa:=key_getD (fr:=fr) (to:=to) hlt
   have xc:=cC_at hlt
   have hc20:(a.getD i []).length≤20:=(oa _ (mem_nat hlt)).2.2.2
   have NA:=l02Own (a.getD i []) (by omega)
   generalize hK:mgK cf a.length b.length i=k0 at *
   generalize hK1:mgK cf a.length b.length (i+1)=k1 at *
   generalize hO:mgI cf a.length b.length i=o at *
   generalize hO1:mgI cf a.length b.length (i+1)=o1 at *
   simp -dsimp only[go_sem,hw,cC,hkl,hkm]
   refine LoopK.at dM (X:={k:Nat // k0≤k∧k≤b.length∧skp cf a.length i (b.length-k) k=k1}) (fun k=>[(9,.loc (.t 9 0) 0 (o.length+(k.1-k0))),(10,.v (.int .i64 (k.1:Nat))),(16,.junk)]) (fun k=>[(.t 9 0,.arr 1 (E cC ((o++rng (a.length+k0) (k.1-k0)).map G)) false)]) (fun k=>b.length-k.1) ⟨k0,Nat.le_refl _,hki,hs0⟩ ?_ ?_
   ·simp[Vs.LeL,Vs.look,Vs.hlook,Vs.sput,Vs.sputs,Vs.hset,Vs.hputs,Nat.sub_self,rng_zero]
   ·rintro⟨k,hk0,hkb,hks⟩
    try dsimp only at hk0 hkb hks
    by_cases hlk:k<b.length
    ·have e1:decide ((k:Int)<(b.length:Int))=true:=by simp;omega
     have w1:IntKind.i64.wrap ((k:Int)+1)=((k+1:Nat):Int):=by rw[wrap_in (by omega) (by omega)];omega
     rw[skp_step hlk] at hks
     have yb:=key_getD (fr:=fr) (to:=to) hlk
     have yc:=cC_at hlk
     have HC:=hcmp i k hlt hlk
     have hgb:=gB k
     have hb20:(b.getD k []).length≤20:=(ob _ (mem_nat hlk)).2.2.2
     have NB:=l02Own (b.getD k []) (by omega)
     by_cases hneg:cf ((a.length+k:Nat):Int) (i:Int)<0
     ·have e2:decide (cf ((a.length+k:Nat):Int) (i:Int)<0)=true:=decide_eq_true hneg
      rw[if_pos hneg] at hks
      have hap:E cC ((o++rng (a.length+k0) (k-k0)).map G)++[[.sl 1 (E cI (b.getD k []))]]=E cC ((o++rng (a.length+k0) (k+1-k0)).map G):=by
       rw[show k+1-k0=(k-k0)+1 by omega,rng_succ,show a.length+k0+(k-k0)=a.length+k by omega,←List.append_assoc,←E_snoc,hgb]
      have hal:(E cC ((o++rng (a.length+k0) (k-k0)).map G)).length=o.length+(k-k0):=by rw[E_len];simp[rng_len]
      have hsum:o.length+(k-k0)+1=o.length+(k+1-k0):=by omega
      repeat' first|simp -dsimp only[go_sem,e1,e2,w1,yb,yc,xa,xc,hap,hal,cC,hkl,hkm]|apply Br.mk<;>intro h<;>try simp -dsimp only[h]|refine CallK.c (by first|exact HC|exact NB) ?_|refine aC ?_|fail
      all_goals first|omega|(refine⟨⟨k+1,by omega,by omega,hks⟩,?_,by simp only;omega⟩;simp[Vs.LeL,Vs.look,Vs.hlook,Vs.sput,Vs.sputs,Vs.hset,Vs.hputs,hsum])
     ·have e2:decide (cf ((a.length+k:Nat):Int) (i:Int)<0)=false:=decide_eq_false hneg
      rw[if_neg hneg] at hks
      subst hks
      have hap:E cC ((o++rng (a.length+k0) (k-k0)).map G)++[[.sl 1 (E cI (a.getD i []))]]=E cC (o1.map G):=by
       rw[hmI,←E_snoc,hga]
      have hal:(E cC ((o++rng (a.length+k0) (k-k0)).map G)).length=o.length+(k-k0):=by rw[E_len];simp[rng_len]
      have hsum:o.length+(k-k0)+1=o1.length:=by omega
      repeat' first|simp -dsimp only[go_sem,e1,e2,w1,yb,yc,xa,xc,hap,hal,hw,hsum,cC,hkl,hkm]|apply Br.mk<;>intro h<;>try simp -dsimp only[h]|refine CallK.c (by first|exact HC|exact NA) ?_|refine And.intro ?_ (fun h=>absurd rfl h)|refine And.intro ?_ (fun h=>absurd rfl h)|refine aC ?_|fail
      all_goals first|omega|(exact⟨⟨(i+1,()),by omega,trivial⟩,by simp[Vs.LeL,Vs.look,Vs.hlook,Vs.sput,Vs.sputs,Vs.hset,Vs.hputs,hsum,hO1,hK1],by simp only;omega⟩)
    ·obtain rfl:k=b.length:=by omega
     have e1:decide ((b.length:Int)<(b.length:Int))=false:=by simp
     rw[skp_stop (by omega)] at hks
     subst hks
     have hap:E cC ((o++rng (a.length+k0) (b.length-k0)).map G)++[[.sl 1 (E cI (a.getD i []))]]=E cC (o1.map G):=by
      rw[hmI,←E_snoc,hga]
     have hal:(E cC ((o++rng (a.length+k0) (b.length-k0)).map G)).length=o.length+(b.length-k0):=by rw[E_len];simp[rng_len]
     have hsum:o.length+(b.length-k0)+1=o1.length:=by omega
     repeat' first|simp -dsimp only[go_sem,e1,xa,xc,hap,hal,hw,hsum,cC,hkl,hkm]|apply Br.mk<;>intro h<;>try simp -dsimp only[h]|refine CallK.c (by first|exact NA) ?_|refine And.intro ?_ (fun h=>absurd rfl h)|refine And.intro ?_ (fun h=>absurd rfl h)|refine aC ?_|fail
     all_goals first|omega|(exact⟨⟨(i+1,()),by omega,trivial⟩,by simp[Vs.LeL,Vs.look,Vs.hlook,Vs.sput,Vs.sputs,Vs.hset,Vs.hputs,hsum,hO1,hK1],by simp only;omega⟩)
  ·have hge:i=a.length:=by
    have:¬i<a.length:=Dq
    omega
   subst hge
   simp -dsimp only[go_sem,cC,hkl,hkm]
   have hka:=mgK_le cf a.length b.length a.length
   have hli:=mgI_len cf a.length b.length a.length
   have hd2:=hdr _ hka
   have hfin:E cC ((mgI cf a.length b.length a.length).map G)++E cC (b.drop (mgK cf a.length b.length a.length))=E cC ((mgF cf a.length b.length).map G):=by
    rw[←hd2,←E_append,←List.map_append];rfl
   have hfl:=mgF_len cf a.length b.length
   have hdE:(E cC b).drop (mgK cf a.length b.length a.length)=E cC (b.drop (mgK cf a.length b.length a.length)):=by simp[E,List.map_drop]
   have hdl:(b.drop (mgK cf a.length b.length a.length)).length=b.length-mgK cf a.length b.length a.length:=by simp
   have CP:=l02Copy (b.drop (mgK cf a.length b.length a.length)) ⟨by omega,fun c hc=>by have:=(ob c (List.mem_of_mem_drop hc)).2.2.2;omega⟩
   have hal:(E cC ((mgI cf a.length b.length a.length).map G)).length=(mgI cf a.length b.length a.length).length:=by rw[E_len];simp
   have hsum:(mgI cf a.length b.length a.length).length+(b.length-mgK cf a.length b.length a.length)=a.length+b.length:=by omega
   have htk:(E cC ((mgF cf a.length b.length).map G)).take (a.length+b.length)=E cC ((mgF cf a.length b.length).map G):=List.take_of_length_le (by rw[E_len,List.length_map];omega)
   generalize mgF cf a.length b.length=mf at *
   generalize mgK cf a.length b.length a.length=k at *
   generalize mgI cf a.length b.length a.length=o at *
   refine⟨?_,fun h=>h rfl⟩
   repeat' first|simp -dsimp only[go_sem,hdE,hdl,hal,hfin,hsum,htk,cC,hkl,hkm]|apply Br.mk<;>intro h<;>try simp -dsimp only[h]|refine CallK.c (by first|exact CP) ?_|refine aC ?_|fail
   all_goals first|omega|exact⟨_,_,rfl,rfl⟩
end
end Go.Proofs.YthfnpdhpefialaaGreat
