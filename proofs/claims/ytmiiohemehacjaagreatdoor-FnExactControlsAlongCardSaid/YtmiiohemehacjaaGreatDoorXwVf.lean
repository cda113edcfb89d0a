/- Merging: the program and the reference. -/
import Derived.Test.YtmiiohemehacjaaGreatDoorXwSq
import Derived.Test.YtmiiohemehacjaaGreatDoorXwQd
import Derived.Test.YtmiiohemehacjaaGreatDoorXwQb
import Derived.Test.YtmiiohemehacjaaGreatDoorVtR
import Derived.Test.YtmiiohemehacjaaGreatDoorXwSh
import Derived.Test.YtmiiohemehacjaaGreatDoorXuF
import Derived.Test.YtmiiohemehacjaaGreatDoorXwSm
import Derived.Test.YtmiiohemehacjaaGreatDoorXwD
import Derived.Test.YtmiiohemehacjaaGreatDoorXuR
set_option linter.all false
set_option maxHeartbeats 8000000
namespace Go.Proofs.YtmiiohemehacjaaGreatDoor
open Go.Vs
section
variable [Vs.Envs]
attribute [local irreducible] Vs.Fn jH gT fF bI chOK areCh chTo chAt l03 chB rk cd3 chI stp stpTo
theorem aJb (a:List Int) (fr to:Int) (H:okF fr to a) (I:bU (fH fr to a)=true):Fz F.pJ [.agg (cC a),.agg (cFd fr to)] (.v (.string (txt (fH fr to a)))):=by
 refine fn0 Cd.i_fieldText_k λX=>?_
 repeat' first|simp -dsimp only[go_sem,cC,cFd,fH_E,List.replicate_succ,List.replicate_zero,List.flatten_cons,List.flatten_nil,List.cons_append,List.nil_append,List.set_cons_zero,List.set_cons_succ,List.length_cons,List.length_nil,List.length_set,List.getD_cons_zero]|apply Br.mk<;>intro h<;>try simp -dsimp only[h]|refine RgK.mk rfl ?_|refine aD.c (by first|exact textOf _ (aAO H) I) ?_|refine And.intro (by first|rfl|omega|decide|exact bS H|exact bS hb|exact⟨rfl,bS H⟩|exact⟨rfl,bS hb⟩|exact aW H|exact aW hb|exact⟨rfl,aW H⟩|exact⟨rfl,aW hb⟩|(refine⟨?_,?_⟩<;>(first|rfl|omega|decide|exact bS H|exact bS hb|exact⟨rfl,bS H⟩|exact⟨rfl,bS hb⟩|exact aW H|exact aW hb|exact⟨rfl,aW H⟩|exact⟨rfl,aW hb⟩))|(refine⟨?_,?_,?_⟩<;>(first|rfl|omega|decide|exact bS H|exact bS hb|exact⟨rfl,bS H⟩|exact⟨rfl,bS hb⟩|exact aW H|exact aW hb|exact⟨rfl,aW H⟩|exact⟨rfl,aW hb⟩))|(refine⟨?_,?_,?_,?_⟩<;>(first|rfl|omega|decide|exact bS H|exact bS hb|exact⟨rfl,bS H⟩|exact⟨rfl,bS hb⟩|exact aW H|exact aW hb|exact⟨rfl,aW H⟩|exact⟨rfl,aW hb⟩))) ?_|fail
 all_goals(simp_all)
theorem aFX {fr to:Int}{l:List (List Int)}{g:List (List Int)} (h:g∈aCU fr to l):0<g.length∧g.length<=l.length∧∀c,c∈g->c∈l:=by
 unfold aCU at h;obtain⟨i,hi,rfl⟩:=List.mem_map.1 h;have hi:=List.mem_range.1 hi;have hin:=vQ (fr:=fr) (to:=to) (l:=l) l.length;have H:=aAM (fr:=fr) (to:=to) (l:=l) l.length;generalize bI fr to l l.length=s at *
 have O:=hin _ (List.getElem_mem hi);have e:s.getD i 0=s[i]:=by simp[List.getD,hi]
 unfold fF;rw[e];refine⟨?_,?_,λc J=>List.mem_of_mem_take (List.mem_of_mem_drop J)⟩
 .rw[List.length_drop,List.length_take];split
  .rename_i F;have L:=hin _ (List.getElem_mem F);have I:s[i]<s[i+1]:=List.pairwise_iff_getElem.1 H i (i+1) hi F (by omega);rw[show s.getD (i+1) 0=s[i+1] by simp[List.getD,F]];omega
  .omega
 .rw[List.length_drop,List.length_take];omega
theorem aFY (fr to:Int) (l:List (List Int)):(aCU fr to l).length<=l.length:=by
 unfold aCU;rw[List.length_map,List.length_range];exact jG fr to l l.length
def cTt (t:ByteArray×Int):List AV:=[.v (.string t.1),.v (.int .i64 t.2)]
def oH (fr to sf st:Int) (l:List (List Int)):List (ByteArray×Int):=(aCU fr to l).map λg=>(txt (fH fr to (g.getD 0 [])),jH sf st g)
def nG (fr to sf st:Int) (l:List (List Int)):Bool:=z8 sf st l&&bP fr to l
def wV (fr to sf st:Int) (l:List (List Int)):AV:=if nG fr to sf st l then .sl 2 (E cTt (oH fr to sf st l)) else .v (.slice none 0 0)
attribute [local irreducible] aCU
attribute [local go_sem] aI List.replicate_succ List.replicate_zero List.flatten_cons List.flatten_nil List.cons_append List.nil_append List.set_cons_zero List.set_cons_succ List.length_cons List.length_nil List.length_set List.getD_cons_zero cD List.mem_singleton Vs.Name.t.injEq List.mem_cons List.not_mem_nil or_false false_or in
theorem aJu (l:List (List Int)) (fr to sf st:Int) (ho:∀c,c∈l->okF fr to c) (hp:∀c,c∈l->okP sf st c) (hl:l.length<=1048576):Fz F.sI [.sl 1 (E cC l),.agg (cFd fr to),.agg (cFd sf st)] (.tup [wV fr to sf st l,.v (.int .i64 (if nG fr to sf st l then 0 else 8))]):=by
 have SO:=aJL l sf st hp hl;have HF:=qY l fr to ho hl;have GR:=groups l fr to ho hl;cases hN:z8 sf st l
 .rw[hN] at SO;have hb:nG fr to sf st l=false:=by simp[nG,hN]
  rw[show wV fr to sf st l=.v (.slice none 0 0) by simp[wV,hb],hb];refine fn0 Cd.i_totalsOf_k λX=>?_
  repeat' first|simp -dsimp only[go_sem,cC,cFd]|apply Br.mk<;>intro h<;>try simp -dsimp only[h]|refine aD.c (by first|exact SO|exact HF) ?_|refine aC ?_|fail
  all_goals first|exact⟨_,_,rfl,rfl⟩|simp
 rw[hN] at SO;cases hC:bP fr to l
 .rw[hC] at HF;have hb:nG fr to sf st l=false:=by simp[nG,hC]
  rw[show wV fr to sf st l=.v (.slice none 0 0) by simp[wV,hb],hb];refine fn0 Cd.i_totalsOf_k λX=>?_
  repeat' first|simp -dsimp only[go_sem,cC,cFd]|apply Br.mk<;>intro h<;>try simp -dsimp only[h]|refine aD.c (by first|exact SO|exact HF) ?_|refine aC ?_|fail
  all_goals first|exact⟨_,_,rfl,rfl⟩|simp
 rw[hC] at HF;have hb:nG fr to sf st l=true:=by simp[nG,hN,hC]
 rw[show wV fr to sf st l=.sl 2 (E cTt (oH fr to sf st l)) by simp[wV,hb],hb];have hgm:∀g,g∈aCU fr to l->0<g.length∧g.length<=l.length∧∀c,c∈g->c∈l:=λg hg=>aFX hg;have hGl:=aFY fr to l;unfold oH;generalize aCU fr to l=G at *
 refine fn0 Cd.i_totalsOf_k λX=>?_
 repeat' first|simp -dsimp only[go_sem,cC,cFd]|apply Br.mk<;>intro h<;>try simp -dsimp only[h]|refine aD.c (by first|exact SO|exact HF|exact GR) ?_|refine aC ?_|fail
 refine aN.at dM (X:={zz:Nat×(Unit) // zz.1<=G.length∧True}) (λzz=>[(10,.loc (.t 10 0) 0 zz.1.1),(35,.v (.int .i64 zz.1.1))]) (λzz=>[(.t 10 0,.arr 2 (E cTt ((G.take zz.1.1).map λg=>(txt (fH fr to (g.getD 0 [])),jH sf st g))) false)]) (λzz=>G.length-zz.1.1) ⟨(0,()),by omega,trivial⟩ ?_ ?_
 .simp[Vs.LeL,Vs.look,Vs.aB,Vs.aR,Vs.aK,Vs.hset,Vs.aL,Vs.E]
 .rintro⟨⟨i,_⟩,hi,hg⟩;dsimp only at hi hg;simp -dsimp only[go_sem,cC,cFd];refine Br.mk (λhc=>?_) λhc=>?_
  .have hlt:i<G.length:=Dq;have hw:=aH hlt (by omega);obtain⟨g0,g1,g2⟩:=hgm _ (List.getElem_mem hlt);have hgi:(E cD G).getD i []=[.sl 1 (E cC G[i])]:=aQ hlt;have SG:=aJL G[i] sf st (λc hc=>hp c (g2 c hc)) (by omega);have hNg:z8 sf st G[i]=true:=List.all_eq_true.2 λc hc=>List.all_eq_true.1 hN c (g2 c hc);rw[show aCo sf st G[i]=.sl 1 (E cI [jH sf st G[i]]) by simp[aCo,hNg],hNg] at SG;have hm0:G[i].getD 0 []∈G[i]:=by rw[show G[i].getD 0 []=G[i][0] by simp[List.getD,g0]];exact List.getElem_mem g0
   have hg0:(E cC G[i]).getD 0 []=[.sl 1 (E cI (G[i].getD 0 []))]:=by rw[aQ g0];simp[cC,List.getD,g0]
   have FT:=aJb (G[i].getD 0 []) fr to (ho _ (g2 _ hm0)) (List.all_eq_true.1 hC _ (g2 _ hm0));have hs0:(E cI [jH sf st G[i]]).getD 0 []=[.v (.int .i64 (jH sf st G[i]))]:=rfl
   have hap:E cTt ((G.take i).map λg=>(txt (fH fr to (g.getD 0 [])),jH sf st g))++[[.v (.string (txt (fH fr to (G[i].getD 0 [])))),.v (.int .i64 (jH sf st G[i]))]]=E cTt ((G.take (i+1)).map λg=>(txt (fH fr to (g.getD 0 [])),jH sf st g)):=by
    rw[bB hlt,List.map_append,aV];rfl
   have hal:(E cTt ((G.take i).map λg=>(txt (fH fr to (g.getD 0 [])),jH sf st g))).length=i:=by rw[aI];simp;omega
   simp -dsimp only[go_sem,hgi,hg0,hs0,hw,hal,cC,cFd]
   repeat' first|simp -dsimp only[go_sem,hgi,hg0,hs0,hw,hap,hal,cC,cFd]|apply Br.mk<;>intro h<;>try simp -dsimp only[h]|refine aD.c (by first|exact SG|exact FT) ?_|refine aC ?_|fail
   all_goals first|omega|(exact nx (i+1,()) trivial (h2:=by simp[Vs.LeL,Vs.look,Vs.aB,Vs.aR,Vs.aK,Vs.hset,Vs.aL,hap]))
  .have hge:i=G.length:=by
    have:¬i<G.length:=Dq;omega
   subst hge;simp -dsimp only[go_sem,cC,cFd]
   have htk:(E cTt ((G.take G.length).map λg=>(txt (fH fr to (g.getD 0 [])),jH sf st g))).take G.length=E cTt (G.map λg=>(txt (fH fr to (g.getD 0 [])),jH sf st g)):=by
    rw[List.take_of_length_le (Nat.le_refl G.length)];exact List.take_of_length_le (by rw[aI];simp)
   first|exact⟨⟨_,_,rfl,rfl⟩,λh=>h rfl⟩|(rw[htk];exact⟨⟨_,_,rfl,rfl⟩,λh=>h rfl⟩)|(simp[htk];done)
end
section
variable [Vs.Envs]
attribute [local irreducible] Vs.Fn chOK areCh chTo chAt l03 chB rk cd3 chI stp stpTo
theorem aNG (w:Nat) (I:w<=1000):Vs.Fn Tryz.prog F.yT [] [.v (.int .i64 w)] (.agg [.loc (.b 0) 0 w]) [some (.arr 1 (List.replicate w [.v (.int .i64 0)]) false)]:=by
 have H:((w:Int)).toNat=w:=by omega
 refine fn1 Cd.i_blank_k [.t 4 0] [.arr 1 (List.replicate w [.v (.int .i64 0)]) false] λX=>?_;unfold Cd.yT
 repeat' first|simp -dsimp only[go_sem,aI,List.set_cons_zero,List.set_cons_succ,List.length_cons,List.length_nil,List.length_set,List.length_replicate,List.flatMap_cons,List.flatMap_nil,nC,uD,mO,List.getD_cons_zero,List.append_nil,List.nil_append,List.cons_append,H]|apply Br.mk<;>intro h<;>try simp -dsimp only[h]|refine aC ?_|fail
 all_goals first|exact⟨_,_,rfl,rfl⟩
def bcd (s:ByteArray):List Int:=s.data.toList.map λb=>cd3 (b.toNat:Int)
def oU (s:ByteArray) (w i:Nat):List Int:=(bcd s).take i++List.replicate (w-i) 0
def pun (s:ByteArray) (w:Nat):List Int:=bcd s++List.replicate (w-s.size) 0
theorem aCj (s:ByteArray):(bcd s).length=s.size:=by simp[bcd]
theorem aGQ (s:ByteArray) (w:Nat):E cI (oU s w 0)=List.replicate w [.v (.int .i64 0)]:=by simp[oU,E,cI]
theorem aCx (s:ByteArray) (w:Nat):oU s w s.size=pun s w:=by
 unfold oU pun;rw[List.take_of_length_le (by rw[aCj];exact Nat.le_refl _)]
theorem yN {s:ByteArray}{w i:Nat} (h:i<=s.size) (F:s.size<=w):(oU s w i).length=w:=by
 have:=aCj s;simp[oU];omega
theorem aIQ {s:ByteArray}{w i:Nat} (h:i<s.size) (U:s.size<=w):(E cI (oU s w i)).set i [.v (.int .i64 (cd3 ((s.data.toList.getD i 0).toNat:Int)))]=E cI (oU s w (i+1)):=by
 have O:=aCj s;have F:i<(bcd s).length:=by omega
 have J:((bcd s).take i).length=i:=by simp;omega
 have L:(bcd s)[i]=cd3 ((s.data.toList.getD i 0).toNat:Int):=by
  have H:i<s.data.toList.length:=by simpa[bcd] using F
  have I:s.data.toList.getD i 0=s.data.toList[i]:=by rw[List.getD_eq_getElem?_getD,List.getElem?_eq_getElem H];rfl
  rw[I];simp[bcd]
 have e:(oU s w i).set i (cd3 ((s.data.toList.getD i 0).toNat:Int))=oU s w (i+1):=by
  unfold oU;rw[show w-i=(w-(i+1))+1 by omega,List.replicate_succ,List.set_append,if_neg (by omega),J,Nat.sub_self,List.set_cons_zero,bB F,L];simp
 rw[←e];simp[E,List.map_set,cI]
attribute [local irreducible] oU
attribute [local go_sem] aI List.set_cons_zero List.set_cons_succ List.length_cons List.length_nil List.length_set List.length_replicate List.flatMap_cons List.flatMap_nil nC uD mO List.getD_cons_zero List.append_nil List.nil_append List.cons_append in
theorem aIP (s:ByteArray) (w:Nat) (hw:w<=1000) (hs:s.size<=w):Fz F.pI [.v (.string s),.v (.int .i64 w)] (.agg [.sl 1 (E cI (pun s w))]):=by
 have BL:=aNG w hw;refine fn0 Cd.i_punchText_k λX=>?_;simp -dsimp only[go_sem];refine aD.own BL rfl ?_
 repeat' first|simp -dsimp only[go_sem]|apply Br.mk<;>intro h<;>try simp -dsimp only[h]|refine aC ?_|fail
 refine aN.at dM (X:={zz:Nat×(Unit) // zz.1<=s.size∧True}) (λzz=>[(6,.v (.int .i64 zz.1.1))]) (λzz=>[(.t 8 0,.arr 1 (E cI (oU s w zz.1.1)) false)]) (λzz=>s.size-zz.1.1) ⟨(0,()),by omega,trivial⟩ ?_ ?_
 .simp[Vs.LeL,Vs.look,Vs.aB,Vs.aR,Vs.aK,Vs.hset,Vs.aL,aGQ]
 .rintro⟨⟨i,_⟩,hi,hg⟩;dsimp only at hi hg;simp -dsimp only[go_sem];refine Br.mk (λhc=>?_) λhc=>?_
  .have hlt:i<s.size:=Dq;have hw:=aH hlt (by omega);have hps:=aIQ (w:=w) hlt hs;have hpl:(E cI (oU s w i)).length=w:=by rw[aI];exact yN (by omega) hs
   have CO:=codeOf ((s.data.toList.getD i 0).toNat:Int)
   have hrow:∃y,(E cI (oU s w i)).getD i []=[y]:=by
    have hil:i<(oU s w i).length:=by rw[yN (by omega) hs];omega
    exact⟨.v (.int .i64 (oU s w i)[i]),by rw[aQ hil];rfl⟩
   obtain⟨y,hy⟩:=hrow
   repeat' first|simp -dsimp only[go_sem,hw,hps,hpl,hy]|apply Br.mk<;>intro h<;>try simp -dsimp only[h]|refine aD.c (by first|exact CO) ?_|refine aC ?_|fail
   all_goals first|omega|(exact nx (i+1,()) trivial (h2:=by simp[Vs.LeL,Vs.look,Vs.aB,Vs.aR,Vs.aK,Vs.hset,Vs.aL,hps]))
  .have hge:i=s.size:=by
    have:¬i<s.size:=Dq;omega
   subst hge;simp -dsimp only[go_sem];have hpf:=aCx s w;have hpl:(E cI (pun s w)).length=w:=by rw[aI,←hpf];exact yN (Nat.le_refl _) hs
   have htk:(E cI (pun s w)).take w=E cI (pun s w):=List.take_of_length_le (by omega)
   first|(rw[hpf,htk];exact⟨⟨_,_,rfl,rfl⟩,λh=>h rfl⟩)|(simp[hpf,htk];done)
end
section
variable [Vs.Envs]
attribute [local irreducible] Vs.Fn pun chOK areCh chTo chAt l03 chB rk cd3 chI stp stpTo
theorem aLM {s:ByteArray}{w:Nat} (h:s.size<=w):(pun s w).length=w:=by rw[←aCx];exact yN (Nat.le_refl _) h
def cmT (fr to:Int) (c:List Int) (s:ByteArray):Int:=iN (fH fr to c) (pun s (to.toNat-fr.toNat))
theorem aGh (a:List Int) (fr to:Int) (s:ByteArray) (H:okF fr to a) (I:s.size<=to.toNat-fr.toNat):Fz F.jF [.agg (cC a),.agg (cFd fr to),.v (.string s)] (.v (.int .i64 (cmT fr to a s))):=by
 have U:=kR H;have O:=H;obtain⟨Z,h1,h2,L⟩:=O;have J:=aIP s (to.toNat-fr.toNat) (by omega) I;have Y:IntKind.i64.wrap (to-fr)=((to.toNat-fr.toNat:Nat):Int):=by rw[aO (by omega) (by omega)];omega
 have CH:=aAP (fH fr to a) (pun s (to.toNat-fr.toNat)) (aAO H) (by rw[U,aLM I]);rw[show iN (fH fr to a) (pun s (to.toNat-fr.toNat))=cmT fr to a s from rfl] at CH;refine fn0 Cd.i_compareText_k λX=>?_
 repeat' first|simp -dsimp only[go_sem,cC,cFd,fH_E,List.set_cons_zero,List.set_cons_succ,List.length_cons,List.length_nil,Y]|apply Br.mk<;>intro h<;>try simp -dsimp only[h]|refine RgK.mk rfl ?_|refine aD.c (by first|exact J|exact CH) ?_|refine And.intro (by first|rfl|omega|decide|exact bS H|exact⟨rfl,bS H⟩|exact aW H|exact⟨rfl,aW H⟩|(refine⟨?_,?_⟩<;>(first|rfl|omega|decide|exact bS H|exact⟨rfl,bS H⟩|exact aW H|exact⟨rfl,aW H⟩))|(refine⟨?_,?_,?_⟩<;>(first|rfl|omega|decide|exact bS H|exact⟨rfl,bS H⟩|exact aW H|exact⟨rfl,aW H⟩))|(refine⟨?_,?_,?_,?_⟩<;>(first|rfl|omega|decide|exact bS H|exact⟨rfl,bS H⟩|exact aW H|exact⟨rfl,aW H⟩))) ?_|fail
 all_goals first|exact⟨_,_,rfl,rfl⟩|simp
end
section
variable [Vs.Envs]
attribute [local irreducible] Vs.Fn pun cmT flt zR chOK areCh chTo chAt l03 chB rk cd3 chI stp stpTo
def iH (fr to:Int) (s:ByteArray) (c:List Int):Bool:=decide (cmT fr to c s<0)||decide (cmT fr to c s>0)
theorem sel1 (x:List Int) (fr to:Int) (s:ByteArray) (J:okF fr to x) (I:s.size<=to.toNat-fr.toNat):Fz F.d9 [.agg (cC x),.ro (cFd fr to),.ro [.v (.string s)],.ro [.v (.string s)]] (.v (.bool (iH fr to s x))):=by
 have H:=aGh x fr to s J I;unfold iH;generalize cmT fr to x s=v at *
 refine fn0 Cd.i_SelectBetween_1_k λX=>?_
 repeat' first|simp -dsimp only[go_sem,cC,cFd,List.replicate_succ,List.replicate_zero,List.flatten_cons,List.flatten_nil,List.cons_append,List.nil_append,List.set_cons_zero,List.set_cons_succ,List.length_cons,List.length_nil,List.length_set]|apply Br.mk<;>intro h<;>try simp -dsimp only[h]|refine aD.c (by first|exact H) ?_|refine aC ?_|fail
 all_goals first|exact⟨_,_,rfl,rfl⟩|(rw[h,Bool.false_or];exact⟨_,_,rfl,rfl⟩)
def kS (fr to:Int) (s:ByteArray) (l:List (List Int)):Int:=zC fr to [s,s] [l]
def mF (fr to:Int) (s:ByteArray) (l:List (List Int)):AV:=if kS fr to s l=0 then .sl 1 (E cC (flt (iH fr to s) l)) else .v (.slice none 0 0)
theorem aHL {fr to:Int}{s:ByteArray}{l:List (List Int)} (h:kS fr to s l=0):bA l=true∧dR fr to (bF l)=true∧((s.size:Int)==W (to-fr))=true∧areCh s=true∧bP fr to l=true:=by
 unfold kS zC at h;cases h1:bA l<;>cases h2:dR fr to (bF l)<;>cases h3:((s.size:Int)==W (to-fr))<;>cases h4:areCh s<;>cases h5:bP fr to l<;>simp[h1,h2,h3,h4,h5] at h⊢
attribute [local go_sem] List.replicate_succ List.replicate_zero List.flatten_cons List.flatten_nil List.cons_append List.nil_append List.set_cons_zero List.set_cons_succ List.length_cons List.length_nil List.length_set in
theorem aDt (l:List (List Int)) (fr to:Int) (s:ByteArray) (L:bJ l) (hz:s.size<=1048576):Fz F.iT [.sl 1 (E cC l),.agg (cFd fr to),.v (.string s),.v (.string s)] (.tup [mF fr to s l,.v (.int .i64 (kS fr to s l))]):=by
 have I:=aK3 fr to [l] ⟨by simp,λd J=>by simp at J;subst J;exact L⟩ [s,s] (by simp) (λt ht=>by simp at ht;subst ht;exact hz);rw[show zC fr to [s,s] [l]=kS fr to s l from rfl] at I;by_cases H:kS fr to s l=0
 .obtain⟨J,hf,Z,he,hb⟩:=aHL H;have ho:=eF J hf;rw[show mF fr to s l=.sl 1 (E cC (flt (iH fr to s) l)) by simp[mF,H],H];rw[H] at I
  have Y:∀x,x∈l->s.size<=to.toNat-fr.toNat:=λx O=>by
   have ha:((s.size:Int))=W (to-fr):=by simpa using Z
   obtain⟨f0,f1,f2,f3⟩:=ho x O;rw[show W (to-fr)=to-fr from aO (by omega) (by omega)] at ha;omega
  have U:=delF (iH fr to s) F.d9 [.ro (cFd fr to),.ro [.v (.string s)],.ro [.v (.string s)]] rfl l L.1 (λx O=>sel1 x fr to s (ho x O) (Y x O));refine fn0 Cd.i_SelectBetween_k λX=>?_
  repeat' first|simp -dsimp only[go_sem,cC,cFd]|apply Br.mk<;>intro h<;>try simp -dsimp only[h]|refine aD.c (by first|exact I) ?_|refine aC ?_|fail
  refine aD.own (aAz l L.2 L.1) rfl ?_;simp -dsimp only[go_sem,cC,cFd,List.flatMap_cons,List.flatMap_nil,nC,uD,mO,List.getD_cons_zero,List.append_nil,List.mem_singleton,List.mem_cons,List.not_mem_nil,or_false,false_or,Vs.Name.t.injEq];refine⟨rfl,aD.borL U rfl ?_⟩;simp -dsimp only[go_sem,cC,cFd,List.flatMap_cons,List.flatMap_nil,nC,uD,mO,List.getD_cons_zero,List.append_nil,List.mem_singleton,List.mem_cons,List.not_mem_nil,or_false,false_or,Vs.Name.t.injEq];have hr:=aFo (flt (iH fr to s) l) (l.length-(flt (iH fr to s) l).length);have hc:(flt (iH fr to s) l).length<=l.length:=yZ ..
  simp -dsimp only[go_sem,List.getElem?_cons_zero,List.drop_zero,aI,List.length_append,hr]
  first|exact⟨_,_,rfl,rfl⟩
 .have e0:(kS fr to s l != 0)=true:=by simp[H]
  rw[show mF fr to s l=.v (.slice none 0 0) by simp[mF,H]];generalize kS fr to s l=c at *
  refine fn0 Cd.i_SelectBetween_k λX=>?_
  repeat' first|simp -dsimp only[go_sem,cC,cFd,e0]|apply Br.mk<;>intro h<;>try simp -dsimp only[h]|refine aD.c (by first|exact I) ?_|refine aC ?_|fail
  all_goals first|exact⟨_,_,rfl,rfl⟩
theorem aBg (l:List (List Int)) (fr to:Int) (s:ByteArray) (J:bJ l) (L:s.size<=1048576):Fz F.lD [.sl 1 (E cC l),.agg (cFd fr to),.v (.string s)] (.tup [mF fr to s l,.v (.int .i64 (kS fr to s l))]):=by
 have I:=aDt l fr to s J L;have H:mF fr to s l=.sl 1 (E cC (flt (iH fr to s) l))∨mF fr to s l=.v (.slice none 0 0):=by unfold mF;split<;>simp
 generalize kS fr to s l=c at *
 rcases H with H|H<;>rw[H] at I⊢
 all_goals
  refine fn0 Cd.i_SelectEqual_k λX=>?_
  repeat' first|simp -dsimp only[go_sem,cC,cFd,List.replicate_succ,List.replicate_zero,List.flatten_cons,List.flatten_nil,List.cons_append,List.nil_append,List.set_cons_zero,List.set_cons_succ,List.length_cons,List.length_nil,List.length_set]|apply Br.mk<;>intro h<;>try simp -dsimp only[h]|refine aD.c (by first|exact I) ?_|refine aC ?_|fail
  all_goals first|exact⟨_,_,rfl,rfl⟩
end
section
variable [Vs.Envs]
attribute [local irreducible] Vs.Fn pun cmT flt zR chOK areCh chTo chAt l03 chB rk cd3 chI stp stpTo
end
section
variable [Vs.Envs]
attribute [local irreducible] Vs.Fn pun cmT zR chOK areCh chTo chAt l03 chB rk cd3 chI stp stpTo
theorem aGR {l:List (List Int)}{fr to:Int} (I:bA l=true) (H:nO fr to (bF l)=true):∀c,c∈l->okP fr to c:=by
 intro c J;unfold nO at H;rw[Bool.and_eq_true] at H;obtain⟨O,U,h2,Y⟩:=eF I H.1 c J;have L:=H.2;rw[show W (to-fr)=to-fr from aO (by omega) (by omega)] at L;simp only[bA,Bool.and_eq_true,List.all_eq_true,decide_eq_true_eq] at I;obtain⟨F,Z⟩:=I.1 c J;simp only[gL,inB,Bool.and_eq_true,List.all_eq_true,decide_eq_true_eq] at F;exact⟨O,U,h2,by simpa using L,Y,λy hy=>F.1 y hy⟩
theorem aFh {fr to:Int}{l:List (List Int)} (I:∀c,c∈l->okF fr to c) (H:l.length<=40):∀c,c∈gQ fr to l->c∈l:=by
 intro c F;obtain⟨i,hi,rfl⟩:=List.mem_map.1 F;exact mP (aED I H i hi)
theorem aFi (fr to:Int) (l:List (List Int)):(gQ fr to l).length=l.length:=by unfold gQ;rw[List.length_map,xN]
end
section
variable [Vs.Envs]
attribute [local irreducible] Vs.Fn chOK areCh chTo chAt l03 chB rk cd3 chI stp stpTo
attribute [local go_sem] cFd aI List.replicate_succ List.replicate_zero List.flatten_cons List.flatten_nil List.cons_append List.nil_append List.set_cons_zero List.set_cons_succ List.length_cons List.length_nil List.length_set in
theorem aEN (l:List (List Int)) (hk:bJ l):Fz F.qQ [.sl 1 (E cC l)] (.sl 1 (E cC l)):=by
 refine fn0 Cd.s_l02Copy_k λX=>?_
 repeat' first|simp -dsimp only[go_sem,cC]|apply Br.mk<;>intro h<;>try simp -dsimp only[h]|refine aC ?_|fail
 refine aN.at dM (X:={zz:Nat×(Unit) // zz.1<=l.length∧True}) (λzz=>[(3,.loc (.t 3 0) 0 zz.1.1),(4,.v (.int .i64 zz.1.1))]) (λzz=>[(.t 3 0,.arr 1 (E cC (l.take zz.1.1)) false)]) (λzz=>l.length-zz.1.1) ⟨(0,()),by omega,trivial⟩ ?_ ?_
 .simp[Vs.LeL,Vs.look,Vs.aB,Vs.aR,Vs.aK,Vs.hset,Vs.aL,Vs.E]
 .rintro⟨⟨i,_⟩,hi,hg⟩;dsimp only at hi hg;simp -dsimp only[go_sem,cC];refine Br.mk (λhc=>?_) λhc=>?_
  .have hlt:i<l.length:=Dq;have hw:=aH hlt (hk.1);have hm:(E cC l).getD i []=[.sl 1 (E cI l[i])]:=aQ hlt;have NC:=xQ l[i] (hk.2 _ (List.getElem_mem hlt));have hap:E cC (l.take i)++[[.sl 1 (E cI l[i])]]=E cC (l.take (i+1)):=by rw[bB hlt,aV];rfl
   have hal:(E cC (l.take i)).length=i:=by rw[aI];simp;omega
   have hl:=hk.1
   repeat' first|simp -dsimp only[go_sem,hm,hw,hap,hal,cC]|apply Br.mk<;>intro h<;>try simp -dsimp only[h]|refine aD.c (by first|exact NC) ?_|refine aC ?_|fail
   all_goals first|omega|(exact nx (i+1,()) trivial (h2:=by simp[Vs.LeL,Vs.look,Vs.aB,Vs.aR,Vs.aK,Vs.hset,Vs.aL,hap]))
  .have hge:i=l.length:=by
    have:¬i<l.length:=Dq;omega
   subst hge;simp -dsimp only[go_sem,cC]
   have htk:(E cC (l.take l.length)).take l.length=E cC l:=by
    rw[List.take_of_length_le (Nat.le_refl l.length)];exact List.take_of_length_le (by rw[aI];exact Nat.le_refl _)
   first|exact⟨⟨_,_,rfl,rfl⟩,λh=>h rfl⟩|(rw[htk];exact⟨⟨_,_,rfl,rfl⟩,λh=>h rfl⟩)|(simp[htk];done)
end
section
variable [Vs.Envs]
attribute [local irreducible] Vs.Fn chOK areCh chTo chAt l03 chB rk cd3 chI stp stpTo stb oV mgK mgI skp iE stF aY jN
theorem aEd {l:List (List Int)}{i:Nat} (h:i<l.length):(E cC l).getD i []=[.sl 1 (E cI (l.getD i []))]:=by rw[aQ h];simp[cC,List.getD,h]
theorem aFR {fr to:Int}{l:List (List Int)}{i:Nat} (h:i<l.length):(E cSt (bK fr to l)).getD i []=[.v (.string (txt (fH fr to (l.getD i []))))]:=by
 rw[aQ (by simpa[bK] using h)];simp[cSt,bK,List.getD,h]
theorem aB5 {l:List (List Int)}{i:Nat} (h:i<l.length):l.getD i []∈l:=by rw[show l.getD i []=l[i] by simp[List.getD,h]];exact List.getElem_mem h
theorem aHt (G:Int->List Int) (p:List Int) (x:Int):E cC (p.map G)++[[.sl 1 (E cI (G x))]]=E cC ((p++[x]).map G):=by rw[List.map_append,aV];rfl
attribute [local go_sem] cFd cD List.replicate_succ List.replicate_zero List.flatten_cons List.flatten_nil List.cons_append List.nil_append List.set_cons_zero List.set_cons_succ List.length_cons List.length_nil List.length_set aI in
theorem aCO (a b:List (List Int)) (fr to:Int) (ha:bJ a) (hb:bJ b) (oa:∀c,c∈a->okF fr to c) (ob:∀c,c∈b->okF fr to c) (ca:bP fr to a=true) (cb:bP fr to b=true) (h40:a.length+b.length<=40) :
  Fz F.rM [.sl 1 (E cC a),.sl 1 (E cC b),.sl 1 (E cSt (bK fr to a)),.sl 1 (E cSt (bK fr to b))] (.sl 1 (E cC ((mgF (cfO fr to (a++b)) a.length b.length).map λi=>(a++b).getD i.toNat []))):=by
 have hkl:=vI fr to a;have hkm:=vI fr to b
 have hcmp:∀i k:Nat,i<a.length->k<b.length->Fz F.eZ [.v (.string (txt (fH fr to (b.getD k [])))),.v (.string (txt (fH fr to (a.getD i []))))] (.v (.int .i64 (cfO fr to (a++b) ((a.length+k:Nat):Int) (i:Int)))):=by
  intro i k hi hk
  have e:cfO fr to (a++b) ((a.length+k:Nat):Int) (i:Int)=iN (fH fr to (b.getD k [])) (fH fr to (a.getD i [])):=by
   unfold cfO;rw[Int.toNat_natCast,Int.toNat_natCast,aIr hi,aIq];rfl
  rw[e];have m1:=aB5 hi;have m2:=aB5 hk;exact wG _ _ (aAO (ob _ m2)) ((kR (ob _ m2)).trans (kR (oa _ m1)).symm) (List.all_eq_true.1 cb _ m2) (List.all_eq_true.1 ca _ m1)
 have gA:∀i:Nat,i<a.length->(λi:Int=>(a++b).getD i.toNat []) (i:Int)=a.getD i []:=λi hi=>by show(a++b).getD (i:Int).toNat []=_;rw[Int.toNat_natCast,aIr hi]
 have gB:∀j:Nat,(λi:Int=>(a++b).getD i.toNat []) ((a.length+j:Nat):Int)=b.getD j []:=λj=>by show(a++b).getD ((a.length+j:Nat):Int).toNat []=_;rw[Int.toNat_natCast,aIq]
 have hdr:∀k,k<=b.length->(rng (a.length+k) (b.length-k)).map (λi=>(a++b).getD i.toNat [])=b.drop k:=by
  intro k hk;apply List.ext_getElem
  .simp[yL]
  .intro j h1 h2;simp only[List.length_map,yL] at h1;simp only[rng,List.getElem_map,List.getElem_range',List.getElem_drop,Nat.one_mul];have g2:=gB (k+j);simp only at g2;rw[show a.length+k+j=a.length+(k+j) by omega,g2];simp[List.getD,(by omega:k+j<b.length)]
 generalize(λi:Int=>(a++b).getD i.toNat [])=G at *
 generalize cfO fr to (a++b)=cf at *
 refine fn0 Cd.s_l09Merge_k λX=>?_
 repeat' first|simp -dsimp only[go_sem,cC,hkl,hkm]|apply Br.mk<;>intro h<;>try simp -dsimp only[h]|refine aC ?_|fail
 refine aN.at dM (X:={zz:Nat×(Unit) // zz.1<=a.length∧True}) (λzz=>[(9,.loc (.t 9 0) 0 (mgI cf a.length b.length zz.1.1).length),(10,.v (.int .i64 (mgK cf a.length b.length zz.1.1:Nat))),(11,.v (.int .i64 zz.1.1))]) (λzz=>[(.t 9 0,.arr 1 (E cC ((mgI cf a.length b.length zz.1.1).map G)) false)]) (λzz=>a.length-zz.1.1) ⟨(0,()),by omega,trivial⟩ ?_ ?_
 .simp[Vs.LeL,Vs.look,Vs.aB,Vs.aR,Vs.aK,Vs.hset,Vs.aL,Vs.E,mgI,mgK]
 .rintro⟨⟨i,_⟩,hi,hg⟩;dsimp only at hi hg;simp -dsimp only[go_sem,cC,hkl,hkm];refine Br.mk (λhc=>?_) λhc=>?_
  .have hlt:i<a.length:=Dq;have hw:=aH hlt (by omega);have hki:=wE cf a.length b.length i;have hki1:=wE cf a.length b.length (i+1);have hkg:=aEG cf a.length b.length i;have hli:=aB3 cf a.length b.length i;have hli1:=aB3 cf a.length b.length (i+1);have hs0:skp cf a.length i (b.length-mgK cf a.length b.length i) (mgK cf a.length b.length i)=mgK cf a.length b.length (i+1):=by rw[mgK]
   have hmI:mgI cf a.length b.length (i+1)=mgI cf a.length b.length i++rng (a.length+mgK cf a.length b.length i) (mgK cf a.length b.length (i+1)-mgK cf a.length b.length i)++[(i:Int)]:=by rw[mgI]
   have hga:=gA i hlt;have xa:=aFR (fr:=fr) (to:=to) hlt;have xc:=aEd hlt;have hc20:(a.getD i []).length<=20:=(oa _ (aB5 hlt)).2.2.2;have NA:=xQ (a.getD i []) (by omega);generalize hK:mgK cf a.length b.length i=k0 at *
   generalize hK1:mgK cf a.length b.length (i+1)=k1 at *
   generalize hO:mgI cf a.length b.length i=o at *
   generalize hO1:mgI cf a.length b.length (i+1)=o1 at *
   simp -dsimp only[go_sem,hw,cC,hkl,hkm];refine aN.at dM (X:={k:Nat // k0<=k∧k<=b.length∧skp cf a.length i (b.length-k) k=k1}) (λk=>[(9,.loc (.t 9 0) 0 (o.length+(k.1-k0))),(10,.v (.int .i64 (k.1:Nat))),(16,.junk)]) (λk=>[(.t 9 0,.arr 1 (E cC ((o++rng (a.length+k0) (k.1-k0)).map G)) false)]) (λk=>b.length-k.1) ⟨k0,Nat.le_refl _,hki,hs0⟩ ?_ ?_
   .simp[Vs.LeL,Vs.look,Vs.aB,Vs.aR,Vs.aK,Vs.hset,Vs.aL,Nat.sub_self,aJ3]
   .rintro⟨k,hk0,hkb,hks⟩
    try dsimp only at hk0 hkb hks
    by_cases hlk:k<b.length
    .have e1:decide ((k:Int)<(b.length:Int))=true:=by simp;omega
     have w1:IntKind.i64.wrap ((k:Int)+1)=((k+1:Nat):Int):=by rw[aO (by omega) (by omega)];omega
     rw[aJV hlk] at hks;have yb:=aFR (fr:=fr) (to:=to) hlk;have yc:=aEd hlk;have HC:=hcmp i k hlt hlk;have hgb:=gB k;have hb20:(b.getD k []).length<=20:=(ob _ (aB5 hlk)).2.2.2;have NB:=xQ (b.getD k []) (by omega);by_cases hneg:cf ((a.length+k:Nat):Int) (i:Int)<0
     .have e2:decide (cf ((a.length+k:Nat):Int) (i:Int)<0)=true:=decide_eq_true hneg;rw[if_pos hneg] at hks
      have hap:E cC ((o++rng (a.length+k0) (k-k0)).map G)++[[.sl 1 (E cI (b.getD k []))]]=E cC ((o++rng (a.length+k0) (k+1-k0)).map G):=by
       rw[show k+1-k0=(k-k0)+1 by omega,aFp,show a.length+k0+(k-k0)=a.length+k by omega,←List.append_assoc,←aHt,hgb]
      have hal:(E cC ((o++rng (a.length+k0) (k-k0)).map G)).length=o.length+(k-k0):=by rw[aI];simp[yL]
      have hsum:o.length+(k-k0)+1=o.length+(k+1-k0):=by omega
      repeat' first|simp -dsimp only[go_sem,e1,e2,w1,yb,yc,xa,xc,hap,hal,cC,hkl,hkm]|apply Br.mk<;>intro h<;>try simp -dsimp only[h]|refine aD.c (by first|exact HC|exact NB) ?_|refine aC ?_|fail
      all_goals first|omega|(refine⟨⟨k+1,by omega,by omega,hks⟩,?_,by simp only;omega⟩;simp[Vs.LeL,Vs.look,Vs.aB,Vs.aR,Vs.aK,Vs.hset,Vs.aL,hsum])
     .have e2:decide (cf ((a.length+k:Nat):Int) (i:Int)<0)=false:=decide_eq_false hneg;rw[if_neg hneg] at hks;subst hks
      have hap:E cC ((o++rng (a.length+k0) (k-k0)).map G)++[[.sl 1 (E cI (a.getD i []))]]=E cC (o1.map G):=by
       rw[hmI,←aHt,hga]
      have hal:(E cC ((o++rng (a.length+k0) (k-k0)).map G)).length=o.length+(k-k0):=by rw[aI];simp[yL]
      have hsum:o.length+(k-k0)+1=o1.length:=by omega
      repeat' first|simp -dsimp only[go_sem,e1,e2,w1,yb,yc,xa,xc,hap,hal,hw,hsum,cC,hkl,hkm]|apply Br.mk<;>intro h<;>try simp -dsimp only[h]|refine aD.c (by first|exact HC|exact NA) ?_|refine And.intro ?_ (λh=>absurd rfl h)|refine And.intro ?_ (λh=>absurd rfl h)|refine aC ?_|fail
      all_goals first|omega|(exact⟨⟨(i+1,()),by omega,trivial⟩,by simp[Vs.LeL,Vs.look,Vs.aB,Vs.aR,Vs.aK,Vs.hset,Vs.aL,hsum,hO1,hK1],by simp only;omega⟩)
    .obtain rfl:k=b.length:=by omega
     have e1:decide ((b.length:Int)<(b.length:Int))=false:=by simp
     rw[aJU (by omega)] at hks;subst hks
     have hap:E cC ((o++rng (a.length+k0) (b.length-k0)).map G)++[[.sl 1 (E cI (a.getD i []))]]=E cC (o1.map G):=by
      rw[hmI,←aHt,hga]
     have hal:(E cC ((o++rng (a.length+k0) (b.length-k0)).map G)).length=o.length+(b.length-k0):=by rw[aI];simp[yL]
     have hsum:o.length+(b.length-k0)+1=o1.length:=by omega
     repeat' first|simp -dsimp only[go_sem,e1,xa,xc,hap,hal,hw,hsum,cC,hkl,hkm]|apply Br.mk<;>intro h<;>try simp -dsimp only[h]|refine aD.c (by first|exact NA) ?_|refine And.intro ?_ (λh=>absurd rfl h)|refine And.intro ?_ (λh=>absurd rfl h)|refine aC ?_|fail
     all_goals first|omega|(exact⟨⟨(i+1,()),by omega,trivial⟩,by simp[Vs.LeL,Vs.look,Vs.aB,Vs.aR,Vs.aK,Vs.hset,Vs.aL,hsum,hO1,hK1],by simp only;omega⟩)
  .have hge:i=a.length:=by
    have:¬i<a.length:=Dq;omega
   subst hge;simp -dsimp only[go_sem,cC,hkl,hkm];have hka:=wE cf a.length b.length a.length;have hli:=aB3 cf a.length b.length a.length;have hd2:=hdr _ hka
   have hfin:E cC ((mgI cf a.length b.length a.length).map G)++E cC (b.drop (mgK cf a.length b.length a.length))=E cC ((mgF cf a.length b.length).map G):=by
    rw[←hd2,←aV,←List.map_append];rfl
   have hfl:=aLX cf a.length b.length;have hdE:(E cC b).drop (mgK cf a.length b.length a.length)=E cC (b.drop (mgK cf a.length b.length a.length)):=by simp[E,List.map_drop]
   have hdl:(b.drop (mgK cf a.length b.length a.length)).length=b.length-mgK cf a.length b.length a.length:=by simp
   have CP:=aEN (b.drop (mgK cf a.length b.length a.length)) ⟨by omega,λc hc=>by have:=(ob c (List.mem_of_mem_drop hc)).2.2.2;omega⟩;have hal:(E cC ((mgI cf a.length b.length a.length).map G)).length=(mgI cf a.length b.length a.length).length:=by rw[aI];simp
   have hsum:(mgI cf a.length b.length a.length).length+(b.length-mgK cf a.length b.length a.length)=a.length+b.length:=by omega
   have htk:(E cC ((mgF cf a.length b.length).map G)).take (a.length+b.length)=E cC ((mgF cf a.length b.length).map G):=List.take_of_length_le (by rw[aI,List.length_map];omega);generalize mgF cf a.length b.length=mf at *
   generalize mgK cf a.length b.length a.length=k at *
   generalize mgI cf a.length b.length a.length=o at *
   refine⟨?_,λh=>h rfl⟩
   repeat' first|simp -dsimp only[go_sem,hdE,hdl,hal,hfin,hsum,htk,cC,hkl,hkm]|apply Br.mk<;>intro h<;>try simp -dsimp only[h]|refine aD.c (by first|exact CP) ?_|refine aC ?_|fail
   all_goals first|omega|exact⟨_,_,rfl,rfl⟩
end
end Go.Proofs.YtmiiohemehacjaaGreatDoor
