/- MergeDecks: the program and the reference. -/
import Derived.Test.YtkgeiaideklmoaaGreatZwSq
import Derived.Test.YtkgeiaideklmoaaGreatZwSh
import Derived.Test.YtkgeiaideklmoaaGreatZwK
import Derived.Test.YtkgeiaideklmoaaGreatVtR
import Derived.Test.YtkgeiaideklmoaaGreatZuR
set_option linter.all false
set_option maxHeartbeats 8000000
namespace Go.Proofs.YtkgeiaideklmoaaGreat
open Go.Vs
section
variable [Vs.Envs]
attribute [local irreducible] Vs.Fn eX kS eT bL chOK areCh chTo chAt l03 chB rk cd3 chI stp stpTo
theorem aC0 (a:List Int) (fr to:Int) (G:okF fr to a) (hh:bY (fH fr to a)=true):Fz F.oO [.agg (cC a),.agg (cFd fr to)] (.v (.string (txt (fH fr to a)))):=by
 refine fn0 Cd.i_fieldText_k fun X=>?_
 repeat' first|simp -dsimp only[go_sem,cC,cFd,fH_E,List.replicate_succ,List.replicate_zero,List.flatten_cons,List.flatten_nil,List.cons_append,List.nil_append,List.set_cons_zero,List.set_cons_succ,List.length_cons,List.length_nil,List.length_set,List.getD_cons_zero]|apply Br.mk<;>intro h<;>try simp -dsimp only[h]|refine RgK.mk rfl ?_|refine aD.c (by first|exact textOf _ (aAl G) hh) ?_|refine And.intro (by first|rfl|omega|decide|exact bV G|exact bV hb|exact⟨rfl,bV G⟩|exact⟨rfl,bV hb⟩|exact bA G|exact bA hb|exact⟨rfl,bA G⟩|exact⟨rfl,bA hb⟩|(refine⟨?_,?_⟩<;>(first|rfl|omega|decide|exact bV G|exact bV hb|exact⟨rfl,bV G⟩|exact⟨rfl,bV hb⟩|exact bA G|exact bA hb|exact⟨rfl,bA G⟩|exact⟨rfl,bA hb⟩))|(refine⟨?_,?_,?_⟩<;>(first|rfl|omega|decide|exact bV G|exact bV hb|exact⟨rfl,bV G⟩|exact⟨rfl,bV hb⟩|exact bA G|exact bA hb|exact⟨rfl,bA G⟩|exact⟨rfl,bA hb⟩))|(refine⟨?_,?_,?_,?_⟩<;>(first|rfl|omega|decide|exact bV G|exact bV hb|exact⟨rfl,bV G⟩|exact⟨rfl,bV hb⟩|exact bA G|exact bA hb|exact⟨rfl,bA G⟩|exact⟨rfl,bA hb⟩))) ?_|fail
 all_goals(simp_all)
theorem aB4 {fr to:Int}{l:List (List Int)}{g:List (List Int)} (h:g∈aAh fr to l):0<g.length∧g.length≤l.length∧∀c,c∈g→c∈l:=by
 unfold aAh at h;obtain⟨i,hi,rfl⟩:=List.mem_map.1 h;have hi:=List.mem_range.1 hi;have hin:=uF (fr:=fr) (to:=to) (l:=l) l.length;have G:=aAg (fr:=fr) (to:=to) (l:=l) l.length;generalize bL fr to l l.length=s at *
 have L:=hin _ (List.getElem_mem hi);have e:s.getD i 0=s[i]:=by simp[List.getD,hi]
 unfold eT;rw[e];refine⟨?_,?_,fun c I=>List.mem_of_mem_take (List.mem_of_mem_drop I)⟩
 ·rw[List.length_drop,List.length_take];split
  ·rename_i F;have J:=hin _ (List.getElem_mem F);have H:s[i]<s[i+1]:=List.pairwise_iff_getElem.1 G i (i+1) hi F (by omega);rw[show s.getD (i+1) 0=s[i+1] by simp[List.getD,F]];omega
  ·omega
 ·rw[List.length_drop,List.length_take];omega
theorem aB5 (fr to:Int) (l:List (List Int)):(aAh fr to l).length≤l.length:=by
 unfold aAh;rw[List.length_map,List.length_range];exact jJ fr to l l.length
def cTt (t:ByteArray×Int):List AV:=[.v (.string t.1),.v (.int .i64 t.2)]
def iI (fr to sf st:Int) (l:List (List Int)):List (ByteArray×Int):=(aAh fr to l).map fun g=>(txt (fH fr to (g.getD 0 [])),eX sf st g)
def jK (fr to sf st:Int) (l:List (List Int)):Bool:=rT sf st l&&bP fr to l
def vK (fr to sf st:Int) (l:List (List Int)):AV:=if jK fr to sf st l then .sl 2 (E cTt (iI fr to sf st l)) else .v (.slice none 0 0)
attribute [local irreducible] aAh
attribute [local go_sem] aI List.replicate_succ List.replicate_zero List.flatten_cons List.flatten_nil List.cons_append List.nil_append List.set_cons_zero List.set_cons_succ List.length_cons List.length_nil List.length_set List.getD_cons_zero cD List.mem_singleton Vs.Name.t.injEq List.mem_cons List.not_mem_nil or_false false_or in
theorem aH2 (l:List (List Int)) (fr to sf st:Int) (ho:∀c,c∈l→okF fr to c) (hp:∀c,c∈l→okP sf st c) (hl:l.length≤1048576):Fz F.lL [.sl 1 (E cC l),.agg (cFd fr to),.agg (cFd sf st)] (.tup [vK fr to sf st l,.v (.int .i64 (if jK fr to sf st l then 0 else 8))]):=by
 have SO:=aDp l sf st hp hl;have HF:=nU l fr to ho hl;have GR:=groups l fr to ho hl;cases hN:rT sf st l
 ·rw[hN] at SO;have hb:jK fr to sf st l=false:=by simp[jK,hN]
  rw[show vK fr to sf st l=.v (.slice none 0 0) by simp[vK,hb],hb];refine fn0 Cd.i_totalsOf_k fun X=>?_
  repeat' first|simp -dsimp only[go_sem,cC,cFd]|apply Br.mk<;>intro h<;>try simp -dsimp only[h]|refine aD.c (by first|exact SO|exact HF) ?_|refine aC ?_|fail
  all_goals first|exact⟨_,_,rfl,rfl⟩|simp
 rw[hN] at SO;cases hC:bP fr to l
 ·rw[hC] at HF;have hb:jK fr to sf st l=false:=by simp[jK,hC]
  rw[show vK fr to sf st l=.v (.slice none 0 0) by simp[vK,hb],hb];refine fn0 Cd.i_totalsOf_k fun X=>?_
  repeat' first|simp -dsimp only[go_sem,cC,cFd]|apply Br.mk<;>intro h<;>try simp -dsimp only[h]|refine aD.c (by first|exact SO|exact HF) ?_|refine aC ?_|fail
  all_goals first|exact⟨_,_,rfl,rfl⟩|simp
 rw[hC] at HF;have hb:jK fr to sf st l=true:=by simp[jK,hN,hC]
 rw[show vK fr to sf st l=.sl 2 (E cTt (iI fr to sf st l)) by simp[vK,hb],hb];have hgm:∀g,g∈aAh fr to l→0<g.length∧g.length≤l.length∧∀c,c∈g→c∈l:=fun g hg=>aB4 hg;have hGl:=aB5 fr to l;unfold iI;generalize aAh fr to l=G at *
 refine fn0 Cd.i_totalsOf_k fun X=>?_
 repeat' first|simp -dsimp only[go_sem,cC,cFd]|apply Br.mk<;>intro h<;>try simp -dsimp only[h]|refine aD.c (by first|exact SO|exact HF|exact GR) ?_|refine aC ?_|fail
 refine aN.at dM (X:={zz:Nat×(Unit) // zz.1≤G.length∧True}) (fun zz=>[(10,.loc (.t 10 0) 0 zz.1.1),(35,.v (.int .i64 zz.1.1))]) (fun zz=>[(.t 10 0,.arr 2 (E cTt ((G.take zz.1.1).map fun g=>(txt (fH fr to (g.getD 0 [])),eX sf st g))) false)]) (fun zz=>G.length-zz.1.1) ⟨(0,()),by omega,trivial⟩ ?_ ?_
 ·simp[Vs.LeL,Vs.look,Vs.aB,Vs.aQ,Vs.aL,Vs.hset,Vs.aM,Vs.E]
 ·rintro⟨⟨i,_⟩,hi,hg⟩;dsimp only at hi hg;simp -dsimp only[go_sem,cC,cFd];refine Br.mk (fun hc=>?_) fun hc=>?_
  ·have hlt:i<G.length:=Dq;have hw:=aH hlt (by omega);obtain⟨g0,g1,g2⟩:=hgm _ (List.getElem_mem hlt);have hgi:(E cD G).getD i []=[.sl 1 (E cC G[i])]:=aS hlt;have SG:=aDp G[i] sf st (fun c hc=>hp c (g2 c hc)) (by omega);have hNg:rT sf st G[i]=true:=List.all_eq_true.2 fun c hc=>List.all_eq_true.1 hN c (g2 c hc);rw[show zA sf st G[i]=.sl 1 (E cI [eX sf st G[i]]) by simp[zA,hNg],hNg] at SG;have hm0:G[i].getD 0 []∈G[i]:=by rw[show G[i].getD 0 []=G[i][0] by simp[List.getD,g0]];exact List.getElem_mem g0
   have hg0:(E cC G[i]).getD 0 []=[.sl 1 (E cI (G[i].getD 0 []))]:=by rw[aS g0];simp[cC,List.getD,g0]
   have FT:=aC0 (G[i].getD 0 []) fr to (ho _ (g2 _ hm0)) (List.all_eq_true.1 hC _ (g2 _ hm0));have hs0:(E cI [eX sf st G[i]]).getD 0 []=[.v (.int .i64 (eX sf st G[i]))]:=rfl
   have hap:E cTt ((G.take i).map fun g=>(txt (fH fr to (g.getD 0 [])),eX sf st g))++[[.v (.string (txt (fH fr to (G[i].getD 0 [])))),.v (.int .i64 (eX sf st G[i]))]]=E cTt ((G.take (i+1)).map fun g=>(txt (fH fr to (g.getD 0 [])),eX sf st g)):=by
    rw[bJ hlt,List.map_append,aY];rfl
   have hal:(E cTt ((G.take i).map fun g=>(txt (fH fr to (g.getD 0 [])),eX sf st g))).length=i:=by rw[aI];simp;omega
   simp -dsimp only[go_sem,hgi,hg0,hs0,hw,hal,cC,cFd]
   repeat' first|simp -dsimp only[go_sem,hgi,hg0,hs0,hw,hap,hal,cC,cFd]|apply Br.mk<;>intro h<;>try simp -dsimp only[h]|refine aD.c (by first|exact SG|exact FT) ?_|refine aC ?_|fail
   all_goals first|omega|(exact nx (i+1,()) trivial (h2:=by simp[Vs.LeL,Vs.look,Vs.aB,Vs.aQ,Vs.aL,Vs.hset,Vs.aM,hap]))
  ·have hge:i=G.length:=by
    have:¬i<G.length:=Dq;omega
   subst hge;simp -dsimp only[go_sem,cC,cFd]
   have htk:(E cTt ((G.take G.length).map fun g=>(txt (fH fr to (g.getD 0 [])),eX sf st g))).take G.length=E cTt (G.map fun g=>(txt (fH fr to (g.getD 0 [])),eX sf st g)):=by
    rw[List.take_of_length_le (Nat.le_refl G.length)];exact List.take_of_length_le (by rw[aI];simp)
   first|exact⟨⟨_,_,rfl,rfl⟩,fun h=>h rfl⟩|(rw[htk];exact⟨⟨_,_,rfl,rfl⟩,fun h=>h rfl⟩)|(simp[htk];done)
end
section
variable [Vs.Envs]
attribute [local irreducible] Vs.Fn chOK areCh chTo chAt l03 chB rk cd3 chI stp stpTo
theorem aLS (w:Nat) (H:w≤1000):Vs.Fn Tryz.prog F.xP [] [.v (.int .i64 w)] (.agg [.loc (.b 0) 0 w]) [some (.arr 1 (List.replicate w [.v (.int .i64 0)]) false)]:=by
 have G:((w:Int)).toNat=w:=by omega
 refine fn1 Cd.i_blank_k [.t 4 0] [.arr 1 (List.replicate w [.v (.int .i64 0)]) false] fun X=>?_;unfold Cd.xP
 repeat' first|simp -dsimp only[go_sem,aI,List.set_cons_zero,List.set_cons_succ,List.length_cons,List.length_nil,List.length_set,List.length_replicate,List.flatMap_cons,List.flatMap_nil,bI,dF,bH,List.getD_cons_zero,List.append_nil,List.nil_append,List.cons_append,G]|apply Br.mk<;>intro h<;>try simp -dsimp only[h]|refine aC ?_|fail
 all_goals first|exact⟨_,_,rfl,rfl⟩
def bcd (s:ByteArray):List Int:=s.data.toList.map fun b=>cd3 (b.toNat:Int)
def oH (s:ByteArray) (w i:Nat):List Int:=(bcd s).take i++List.replicate (w-i) 0
def pun (s:ByteArray) (w:Nat):List Int:=bcd s++List.replicate (w-s.size) 0
theorem aBz (s:ByteArray):(bcd s).length=s.size:=by simp[bcd]
theorem aFz (s:ByteArray) (w:Nat):E cI (oH s w 0)=List.replicate w [.v (.int .i64 0)]:=by simp[oH,E,cI]
theorem aBM (s:ByteArray) (w:Nat):oH s w s.size=pun s w:=by
 unfold oH pun;rw[List.take_of_length_le (by rw[aBz];exact Nat.le_refl _)]
theorem xJ {s:ByteArray}{w i:Nat} (h:i≤s.size) (F:s.size≤w):(oH s w i).length=w:=by
 have:=aBz s;simp[oH];omega
theorem aHr {s:ByteArray}{w i:Nat} (h:i<s.size) (M:s.size≤w):(E cI (oH s w i)).set i [.v (.int .i64 (cd3 ((s.data.toList.getD i 0).toNat:Int)))]=E cI (oH s w (i+1)):=by
 have L:=aBz s;have F:i<(bcd s).length:=by omega
 have I:((bcd s).take i).length=i:=by simp;omega
 have J:(bcd s)[i]=cd3 ((s.data.toList.getD i 0).toNat:Int):=by
  have G:i<s.data.toList.length:=by simpa[bcd] using F
  have H:s.data.toList.getD i 0=s.data.toList[i]:=by rw[List.getD_eq_getElem?_getD,List.getElem?_eq_getElem G];rfl
  rw[H];simp[bcd]
 have e:(oH s w i).set i (cd3 ((s.data.toList.getD i 0).toNat:Int))=oH s w (i+1):=by
  unfold oH;rw[show w-i=(w-(i+1))+1 by omega,List.replicate_succ,List.set_append,if_neg (by omega),I,Nat.sub_self,List.set_cons_zero,bJ F,J];simp
 rw[←e];simp[E,List.map_set,cI]
attribute [local irreducible] oH
attribute [local go_sem] aI List.set_cons_zero List.set_cons_succ List.length_cons List.length_nil List.length_set List.length_replicate List.flatMap_cons List.flatMap_nil bI dF bH List.getD_cons_zero List.append_nil List.nil_append List.cons_append in
theorem aHq (s:ByteArray) (w:Nat) (hw:w≤1000) (hs:s.size≤w):Fz F.oN [.v (.string s),.v (.int .i64 w)] (.agg [.sl 1 (E cI (pun s w))]):=by
 have BL:=aLS w hw;refine fn0 Cd.i_punchText_k fun X=>?_;simp -dsimp only[go_sem];refine aD.own BL rfl ?_
 repeat' first|simp -dsimp only[go_sem]|apply Br.mk<;>intro h<;>try simp -dsimp only[h]|refine aC ?_|fail
 refine aN.at dM (X:={zz:Nat×(Unit) // zz.1≤s.size∧True}) (fun zz=>[(6,.v (.int .i64 zz.1.1))]) (fun zz=>[(.t 8 0,.arr 1 (E cI (oH s w zz.1.1)) false)]) (fun zz=>s.size-zz.1.1) ⟨(0,()),by omega,trivial⟩ ?_ ?_
 ·simp[Vs.LeL,Vs.look,Vs.aB,Vs.aQ,Vs.aL,Vs.hset,Vs.aM,aFz]
 ·rintro⟨⟨i,_⟩,hi,hg⟩;dsimp only at hi hg;simp -dsimp only[go_sem];refine Br.mk (fun hc=>?_) fun hc=>?_
  ·have hlt:i<s.size:=Dq;have hw:=aH hlt (by omega);have hps:=aHr (w:=w) hlt hs;have hpl:(E cI (oH s w i)).length=w:=by rw[aI];exact xJ (by omega) hs
   have CO:=codeOf ((s.data.toList.getD i 0).toNat:Int)
   have hrow:∃y,(E cI (oH s w i)).getD i []=[y]:=by
    have hil:i<(oH s w i).length:=by rw[xJ (by omega) hs];omega
    exact⟨.v (.int .i64 (oH s w i)[i]),by rw[aS hil];rfl⟩
   obtain⟨y,hy⟩:=hrow
   repeat' first|simp -dsimp only[go_sem,hw,hps,hpl,hy]|apply Br.mk<;>intro h<;>try simp -dsimp only[h]|refine aD.c (by first|exact CO) ?_|refine aC ?_|fail
   all_goals first|omega|(exact nx (i+1,()) trivial (h2:=by simp[Vs.LeL,Vs.look,Vs.aB,Vs.aQ,Vs.aL,Vs.hset,Vs.aM,hps]))
  ·have hge:i=s.size:=by
    have:¬i<s.size:=Dq;omega
   subst hge;simp -dsimp only[go_sem];have hpf:=aBM s w;have hpl:(E cI (pun s w)).length=w:=by rw[aI,←hpf];exact xJ (Nat.le_refl _) hs
   have htk:(E cI (pun s w)).take w=E cI (pun s w):=List.take_of_length_le (by omega)
   first|(rw[hpf,htk];exact⟨⟨_,_,rfl,rfl⟩,fun h=>h rfl⟩)|(simp[hpf,htk];done)
end
section
variable [Vs.Envs]
attribute [local irreducible] Vs.Fn pun chOK areCh chTo chAt l03 chB rk cd3 chI stp stpTo
theorem aKc {s:ByteArray}{w:Nat} (h:s.size≤w):(pun s w).length=w:=by rw[←aBM];exact xJ (Nat.le_refl _) h
def cmT (fr to:Int) (c:List Int) (s:ByteArray):Int:=iR (fH fr to c) (pun s (to.toNat-fr.toNat))
theorem aE6 (a:List Int) (fr to:Int) (s:ByteArray) (G:okF fr to a) (H:s.size≤to.toNat-fr.toNat):Fz F.jI [.agg (cC a),.agg (cFd fr to),.v (.string s)] (.v (.int .i64 (cmT fr to a s))):=by
 have M:=kQ G;have L:=G;obtain⟨U,Y,h2,J⟩:=L;have I:=aHq s (to.toNat-fr.toNat) (by omega) H;have O:IntKind.i64.wrap (to-fr)=((to.toNat-fr.toNat:Nat):Int):=by rw[aP (by omega) (by omega)];omega
 have CH:=aAn (fH fr to a) (pun s (to.toNat-fr.toNat)) (aAl G) (by rw[M,aKc H]);rw[show iR (fH fr to a) (pun s (to.toNat-fr.toNat))=cmT fr to a s from rfl] at CH;refine fn0 Cd.i_compareText_k fun X=>?_
 repeat' first|simp -dsimp only[go_sem,cC,cFd,fH_E,List.set_cons_zero,List.set_cons_succ,List.length_cons,List.length_nil,O]|apply Br.mk<;>intro h<;>try simp -dsimp only[h]|refine RgK.mk rfl ?_|refine aD.c (by first|exact I|exact CH) ?_|refine And.intro (by first|rfl|omega|decide|exact bV G|exact⟨rfl,bV G⟩|exact bA G|exact⟨rfl,bA G⟩|(refine⟨?_,?_⟩<;>(first|rfl|omega|decide|exact bV G|exact⟨rfl,bV G⟩|exact bA G|exact⟨rfl,bA G⟩))|(refine⟨?_,?_,?_⟩<;>(first|rfl|omega|decide|exact bV G|exact⟨rfl,bV G⟩|exact bA G|exact⟨rfl,bA G⟩))|(refine⟨?_,?_,?_,?_⟩<;>(first|rfl|omega|decide|exact bV G|exact⟨rfl,bV G⟩|exact bA G|exact⟨rfl,bA G⟩))) ?_|fail
 all_goals first|exact⟨_,_,rfl,rfl⟩|simp
end
section
variable [Vs.Envs]
attribute [local irreducible] Vs.Fn pun cmT flt zR chOK areCh chTo chAt l03 chB rk cd3 chI stp stpTo
def gY (fr to:Int) (s:ByteArray) (c:List Int):Bool:=decide (cmT fr to c s<0)||decide (cmT fr to c s>0)
theorem sel1 (x:List Int) (fr to:Int) (s:ByteArray) (I:okF fr to x) (H:s.size≤to.toNat-fr.toNat):Fz F.eG [.agg (cC x),.ro (cFd fr to),.ro [.v (.string s)],.ro [.v (.string s)]] (.v (.bool (gY fr to s x))):=by
 have G:=aE6 x fr to s I H;unfold gY;generalize cmT fr to x s=v at *
 refine fn0 Cd.i_SelectBetween_1_k fun X=>?_
 repeat' first|simp -dsimp only[go_sem,cC,cFd,List.replicate_succ,List.replicate_zero,List.flatten_cons,List.flatten_nil,List.cons_append,List.nil_append,List.set_cons_zero,List.set_cons_succ,List.length_cons,List.length_nil,List.length_set]|apply Br.mk<;>intro h<;>try simp -dsimp only[h]|refine aD.c (by first|exact G) ?_|refine aC ?_|fail
 all_goals first|exact⟨_,_,rfl,rfl⟩|(rw[h,Bool.false_or];exact⟨_,_,rfl,rfl⟩)
def fI (fr to:Int) (s:ByteArray) (l:List (List Int)):Int:=x8 fr to [s,s] [l]
def l8 (fr to:Int) (s:ByteArray) (l:List (List Int)):AV:=if fI fr to s l=0 then .sl 1 (E cC (flt (gY fr to s) l)) else .v (.slice none 0 0)
theorem aGt {fr to:Int}{s:ByteArray}{l:List (List Int)} (h:fI fr to s l=0):bB l=true∧d9 fr to (bD l)=true∧((s.size:Int)==W (to-fr))=true∧areCh s=true∧bP fr to l=true:=by
 unfold fI x8 at h;cases h1:bB l<;>cases h2:d9 fr to (bD l)<;>cases h3:((s.size:Int)==W (to-fr))<;>cases h4:areCh s<;>cases h5:bP fr to l<;>simp[h1,h2,h3,h4,h5] at h⊢
theorem aCs (l:List (List Int)) (fr to:Int) (s:ByteArray) (J:aU l) (hz:s.size≤1048576):Fz F.jA [.sl 1 (E cC l),.agg (cFd fr to),.v (.string s),.v (.string s)] (.tup [l8 fr to s l,.v (.int .i64 (fI fr to s l))]):=by
 have H:=aJu fr to [l] ⟨by simp,fun d I=>by simp at I;subst I;exact J⟩ [s,s] (by simp) (fun t ht=>by simp at ht;subst ht;exact hz);rw[show x8 fr to [s,s] [l]=fI fr to s l from rfl] at H;by_cases G:fI fr to s l=0
 ·obtain⟨I,hf,U,hc,ha⟩:=aGt G;have ho:=dV I hf;rw[show l8 fr to s l=.sl 1 (E cC (flt (gY fr to s) l)) by simp[l8,G],G];rw[G] at H
  have O:∀x,x∈l→s.size≤to.toNat-fr.toNat:=fun x L=>by
   have Y:((s.size:Int))=W (to-fr):=by simpa using U
   obtain⟨f0,f1,f2,f3⟩:=ho x L;rw[show W (to-fr)=to-fr from aP (by omega) (by omega)] at Y;omega
  have M:=delF (gY fr to s) F.eG [.ro (cFd fr to),.ro [.v (.string s)],.ro [.v (.string s)]] rfl l J.1 (fun x L=>sel1 x fr to s (ho x L) (O x L));refine fn0 Cd.i_SelectBetween_k fun X=>?_
  repeat' first|simp -dsimp only[go_sem,cC,cFd,List.replicate_succ,List.replicate_zero,List.flatten_cons,List.flatten_nil,List.cons_append,List.nil_append,List.set_cons_zero,List.set_cons_succ,List.length_cons,List.length_nil,List.length_set]|apply Br.mk<;>intro h<;>try simp -dsimp only[h]|refine aD.c (by first|exact H) ?_|refine aC ?_|fail
  refine aD.own (zV l J.2 J.1) rfl ?_;simp -dsimp only[go_sem,cC,cFd,List.replicate_succ,List.replicate_zero,List.flatten_cons,List.flatten_nil,List.cons_append,List.nil_append,List.set_cons_zero,List.set_cons_succ,List.length_cons,List.length_nil,List.length_set,List.flatMap_cons,List.flatMap_nil,bI,dF,bH,List.getD_cons_zero,List.append_nil,List.mem_singleton,List.mem_cons,List.not_mem_nil,or_false,false_or,Vs.Name.t.injEq];refine⟨rfl,aD.borL M rfl ?_⟩;simp -dsimp only[go_sem,cC,cFd,List.replicate_succ,List.replicate_zero,List.flatten_cons,List.flatten_nil,List.cons_append,List.nil_append,List.set_cons_zero,List.set_cons_succ,List.length_cons,List.length_nil,List.length_set,List.flatMap_cons,List.flatMap_nil,bI,dF,bH,List.getD_cons_zero,List.append_nil,List.mem_singleton,List.mem_cons,List.not_mem_nil,or_false,false_or,Vs.Name.t.injEq];have hr:=aEk (flt (gY fr to s) l) (l.length-(flt (gY fr to s) l).length);have hb:(flt (gY fr to s) l).length≤l.length:=xU ..
  simp -dsimp only[go_sem,List.getElem?_cons_zero,List.drop_zero,aI,List.length_append,hr]
  first|exact⟨_,_,rfl,rfl⟩
 ·have e0:(fI fr to s l != 0)=true:=by simp[G]
  rw[show l8 fr to s l=.v (.slice none 0 0) by simp[l8,G]];generalize fI fr to s l=c at *
  refine fn0 Cd.i_SelectBetween_k fun X=>?_
  repeat' first|simp -dsimp only[go_sem,cC,cFd,List.replicate_succ,List.replicate_zero,List.flatten_cons,List.flatten_nil,List.cons_append,List.nil_append,List.set_cons_zero,List.set_cons_succ,List.length_cons,List.length_nil,List.length_set,e0]|apply Br.mk<;>intro h<;>try simp -dsimp only[h]|refine aD.c (by first|exact H) ?_|refine aC ?_|fail
  all_goals first|exact⟨_,_,rfl,rfl⟩
theorem aAH (l:List (List Int)) (fr to:Int) (s:ByteArray) (I:aU l) (J:s.size≤1048576):Fz F.kX [.sl 1 (E cC l),.agg (cFd fr to),.v (.string s)] (.tup [l8 fr to s l,.v (.int .i64 (fI fr to s l))]):=by
 have H:=aCs l fr to s I J;have G:l8 fr to s l=.sl 1 (E cC (flt (gY fr to s) l))∨l8 fr to s l=.v (.slice none 0 0):=by unfold l8;split<;>simp
 generalize fI fr to s l=c at *
 rcases G with G|G<;>rw[G] at H⊢
 all_goals
  refine fn0 Cd.i_SelectEqual_k fun X=>?_
  repeat' first|simp -dsimp only[go_sem,cC,cFd,List.replicate_succ,List.replicate_zero,List.flatten_cons,List.flatten_nil,List.cons_append,List.nil_append,List.set_cons_zero,List.set_cons_succ,List.length_cons,List.length_nil,List.length_set]|apply Br.mk<;>intro h<;>try simp -dsimp only[h]|refine aD.c (by first|exact H) ?_|refine aC ?_|fail
  all_goals first|exact⟨_,_,rfl,rfl⟩
end
section
variable [Vs.Envs]
attribute [local irreducible] Vs.Fn pun cmT flt zR chOK areCh chTo chAt l03 chB rk cd3 chI stp stpTo
end
section
variable [Vs.Envs]
attribute [local irreducible] Vs.Fn pun cmT zR chOK areCh chTo chAt l03 chB rk cd3 chI stp stpTo
theorem aDC {l:List (List Int)}{fr to:Int} (H:bB l=true) (G:xZ fr to (bD l)=true):∀c,c∈l→okP fr to c:=by
 intro c I;unfold xZ at G;rw[Bool.and_eq_true] at G;obtain⟨L,M,h2,O⟩:=dV H G.1 c I;have J:=G.2;rw[show W (to-fr)=to-fr from aP (by omega) (by omega)] at J;simp only[bB,Bool.and_eq_true,List.all_eq_true,decide_eq_true_eq] at H;obtain⟨F,U⟩:=H.1 c I;simp only[gX,inB,Bool.and_eq_true,List.all_eq_true,decide_eq_true_eq] at F;exact⟨L,M,h2,by simpa using J,O,fun y Y=>F.1 y Y⟩
theorem aEa {fr to:Int}{l:List (List Int)} (H:∀c,c∈l→okF fr to c) (G:l.length≤40):∀c,c∈eH fr to l→c∈l:=by
 intro c F;obtain⟨i,hi,rfl⟩:=List.mem_map.1 F;exact mK (aDA H G i hi)
theorem aEb (fr to:Int) (l:List (List Int)):(eH fr to l).length=l.length:=by unfold eH;rw[List.length_map,wE]
end
section
variable [Vs.Envs]
attribute [local irreducible] Vs.Fn chOK areCh chTo chAt l03 chB rk cd3 chI stp stpTo
attribute [local go_sem] cFd aI List.replicate_succ List.replicate_zero List.flatten_cons List.flatten_nil List.cons_append List.nil_append List.set_cons_zero List.set_cons_succ List.length_cons List.length_nil List.length_set in
theorem aDM (l:List (List Int)) (hk:aU l):Fz F.nK [.sl 1 (E cC l)] (.sl 1 (E cC l)):=by
 refine fn0 Cd.s_l02Copy_k fun X=>?_
 repeat' first|simp -dsimp only[go_sem,cC]|apply Br.mk<;>intro h<;>try simp -dsimp only[h]|refine aC ?_|fail
 refine aN.at dM (X:={zz:Nat×(Unit) // zz.1≤l.length∧True}) (fun zz=>[(3,.loc (.t 3 0) 0 zz.1.1),(4,.v (.int .i64 zz.1.1))]) (fun zz=>[(.t 3 0,.arr 1 (E cC (l.take zz.1.1)) false)]) (fun zz=>l.length-zz.1.1) ⟨(0,()),by omega,trivial⟩ ?_ ?_
 ·simp[Vs.LeL,Vs.look,Vs.aB,Vs.aQ,Vs.aL,Vs.hset,Vs.aM,Vs.E]
 ·rintro⟨⟨i,_⟩,hi,hg⟩;dsimp only at hi hg;simp -dsimp only[go_sem,cC];refine Br.mk (fun hc=>?_) fun hc=>?_
  ·have hlt:i<l.length:=Dq;have hw:=aH hlt (hk.1);have hm:(E cC l).getD i []=[.sl 1 (E cI l[i])]:=aS hlt;have NC:=wI l[i] (hk.2 _ (List.getElem_mem hlt));have hap:E cC (l.take i)++[[.sl 1 (E cI l[i])]]=E cC (l.take (i+1)):=by rw[bJ hlt,aY];rfl
   have hal:(E cC (l.take i)).length=i:=by rw[aI];simp;omega
   have hl:=hk.1
   repeat' first|simp -dsimp only[go_sem,hm,hw,hap,hal,cC]|apply Br.mk<;>intro h<;>try simp -dsimp only[h]|refine aD.c (by first|exact NC) ?_|refine aC ?_|fail
   all_goals first|omega|(exact nx (i+1,()) trivial (h2:=by simp[Vs.LeL,Vs.look,Vs.aB,Vs.aQ,Vs.aL,Vs.hset,Vs.aM,hap]))
  ·have hge:i=l.length:=by
    have:¬i<l.length:=Dq;omega
   subst hge;simp -dsimp only[go_sem,cC]
   have htk:(E cC (l.take l.length)).take l.length=E cC l:=by
    rw[List.take_of_length_le (Nat.le_refl l.length)];exact List.take_of_length_le (by rw[aI];exact Nat.le_refl _)
   first|exact⟨⟨_,_,rfl,rfl⟩,fun h=>h rfl⟩|(rw[htk];exact⟨⟨_,_,rfl,rfl⟩,fun h=>h rfl⟩)|(simp[htk];done)
end
section
variable [Vs.Envs]
attribute [local irreducible] Vs.Fn chOK areCh chTo chAt l03 chB rk cd3 chI stp stpTo stb mJ mgK mgI skp gQ stF aX iQ
theorem aC8 {l:List (List Int)}{i:Nat} (h:i<l.length):(E cC l).getD i []=[.sl 1 (E cI (l.getD i []))]:=by rw[aS h];simp[cC,List.getD,h]
theorem aEP {fr to:Int}{l:List (List Int)}{i:Nat} (h:i<l.length):(E cSt (bO fr to l)).getD i []=[.v (.string (txt (fH fr to (l.getD i []))))]:=by
 rw[aS (by simpa[bO] using h)];simp[cSt,bO,List.getD,h]
theorem aBo {l:List (List Int)}{i:Nat} (h:i<l.length):l.getD i []∈l:=by rw[show l.getD i []=l[i] by simp[List.getD,h]];exact List.getElem_mem h
theorem aGb (G:Int→List Int) (p:List Int) (x:Int):E cC (p.map G)++[[.sl 1 (E cI (G x))]]=E cC ((p++[x]).map G):=by rw[List.map_append,aY];rfl
attribute [local go_sem] cFd cD List.replicate_succ List.replicate_zero List.flatten_cons List.flatten_nil List.cons_append List.nil_append List.set_cons_zero List.set_cons_succ List.length_cons List.length_nil List.length_set aI in
theorem aBZ (a b:List (List Int)) (fr to:Int) (ha:aU a) (hb:aU b) (oa:∀c,c∈a→okF fr to c) (ob:∀c,c∈b→okF fr to c) (ca:bP fr to a=true) (cb:bP fr to b=true) (h40:a.length+b.length≤40) :
  Fz F.qK [.sl 1 (E cC a),.sl 1 (E cC b),.sl 1 (E cSt (bO fr to a)),.sl 1 (E cSt (bO fr to b))] (.sl 1 (E cC ((mgF (cfO fr to (a++b)) a.length b.length).map fun i=>(a++b).getD i.toNat []))):=by
 have hkl:=tV fr to a;have hkm:=tV fr to b
 have hcmp:∀i k:Nat,i<a.length→k<b.length→Fz F.eZ [.v (.string (txt (fH fr to (b.getD k [])))),.v (.string (txt (fH fr to (a.getD i []))))] (.v (.int .i64 (cfO fr to (a++b) ((a.length+k:Nat):Int) (i:Int)))):=by
  intro i k hi hk
  have e:cfO fr to (a++b) ((a.length+k:Nat):Int) (i:Int)=iR (fH fr to (b.getD k [])) (fH fr to (a.getD i [])):=by
   unfold cfO;rw[Int.toNat_natCast,Int.toNat_natCast,aG5 hi,aG4];rfl
  rw[e];have m1:=aBo hi;have m2:=aBo hk;exact uW _ _ (aAl (ob _ m2)) ((kQ (ob _ m2)).trans (kQ (oa _ m1)).symm) (List.all_eq_true.1 cb _ m2) (List.all_eq_true.1 ca _ m1)
 have gA:∀i:Nat,i<a.length→(fun i:Int=>(a++b).getD i.toNat []) (i:Int)=a.getD i []:=fun i hi=>by show(a++b).getD (i:Int).toNat []=_;rw[Int.toNat_natCast,aG5 hi]
 have gB:∀j:Nat,(fun i:Int=>(a++b).getD i.toNat []) ((a.length+j:Nat):Int)=b.getD j []:=fun j=>by show(a++b).getD ((a.length+j:Nat):Int).toNat []=_;rw[Int.toNat_natCast,aG4]
 have hdr:∀k,k≤b.length→(rng (a.length+k) (b.length-k)).map (fun i=>(a++b).getD i.toNat [])=b.drop k:=by
  intro k hk;apply List.ext_getElem
  ·simp[xI]
  ·intro j h1 h2;simp only[List.length_map,xI] at h1;simp only[rng,List.getElem_map,List.getElem_range',List.getElem_drop,Nat.one_mul];have g2:=gB (k+j);simp only at g2;rw[show a.length+k+j=a.length+(k+j) by omega,g2];simp[List.getD,(by omega:k+j<b.length)]
 generalize(fun i:Int=>(a++b).getD i.toNat [])=G at *
 generalize cfO fr to (a++b)=cf at *
 refine fn0 Cd.s_l09Merge_k fun X=>?_
 repeat' first|simp -dsimp only[go_sem,cC,hkl,hkm]|apply Br.mk<;>intro h<;>try simp -dsimp only[h]|refine aC ?_|fail
 refine aN.at dM (X:={zz:Nat×(Unit) // zz.1≤a.length∧True}) (fun zz=>[(9,.loc (.t 9 0) 0 (mgI cf a.length b.length zz.1.1).length),(10,.v (.int .i64 (mgK cf a.length b.length zz.1.1:Nat))),(11,.v (.int .i64 zz.1.1))]) (fun zz=>[(.t 9 0,.arr 1 (E cC ((mgI cf a.length b.length zz.1.1).map G)) false)]) (fun zz=>a.length-zz.1.1) ⟨(0,()),by omega,trivial⟩ ?_ ?_
 ·simp[Vs.LeL,Vs.look,Vs.aB,Vs.aQ,Vs.aL,Vs.hset,Vs.aM,Vs.E,mgI,mgK]
 ·rintro⟨⟨i,_⟩,hi,hg⟩;dsimp only at hi hg;simp -dsimp only[go_sem,cC,hkl,hkm];refine Br.mk (fun hc=>?_) fun hc=>?_
  ·have hlt:i<a.length:=Dq;have hw:=aH hlt (by omega);have hki:=uT cf a.length b.length i;have hki1:=uT cf a.length b.length (i+1);have hkg:=aDG cf a.length b.length i;have hli:=aBm cf a.length b.length i;have hli1:=aBm cf a.length b.length (i+1);have hs0:skp cf a.length i (b.length-mgK cf a.length b.length i) (mgK cf a.length b.length i)=mgK cf a.length b.length (i+1):=by rw[mgK]
   have hmI:mgI cf a.length b.length (i+1)=mgI cf a.length b.length i++rng (a.length+mgK cf a.length b.length i) (mgK cf a.length b.length (i+1)-mgK cf a.length b.length i)++[(i:Int)]:=by rw[mgI]
   have hga:=gA i hlt;have xa:=aEP (fr:=fr) (to:=to) hlt;have xc:=aC8 hlt;have hc20:(a.getD i []).length≤20:=(oa _ (aBo hlt)).2.2.2;have NA:=wI (a.getD i []) (by omega);generalize hK:mgK cf a.length b.length i=k0 at *
   generalize hK1:mgK cf a.length b.length (i+1)=k1 at *
   generalize hO:mgI cf a.length b.length i=o at *
   generalize hO1:mgI cf a.length b.length (i+1)=o1 at *
   simp -dsimp only[go_sem,hw,cC,hkl,hkm];refine aN.at dM (X:={k:Nat // k0≤k∧k≤b.length∧skp cf a.length i (b.length-k) k=k1}) (fun k=>[(9,.loc (.t 9 0) 0 (o.length+(k.1-k0))),(10,.v (.int .i64 (k.1:Nat))),(16,.junk)]) (fun k=>[(.t 9 0,.arr 1 (E cC ((o++rng (a.length+k0) (k.1-k0)).map G)) false)]) (fun k=>b.length-k.1) ⟨k0,Nat.le_refl _,hki,hs0⟩ ?_ ?_
   ·simp[Vs.LeL,Vs.look,Vs.aB,Vs.aQ,Vs.aL,Vs.hset,Vs.aM,Nat.sub_self,aIz]
   ·rintro⟨k,hk0,hkb,hks⟩
    try dsimp only at hk0 hkb hks
    by_cases hlk:k<b.length
    ·have e1:decide ((k:Int)<(b.length:Int))=true:=by simp;omega
     have w1:IntKind.i64.wrap ((k:Int)+1)=((k+1:Nat):Int):=by rw[aP (by omega) (by omega)];omega
     rw[aIo hlk] at hks;have yb:=aEP (fr:=fr) (to:=to) hlk;have yc:=aC8 hlk;have HC:=hcmp i k hlt hlk;have hgb:=gB k;have hb20:(b.getD k []).length≤20:=(ob _ (aBo hlk)).2.2.2;have NB:=wI (b.getD k []) (by omega);by_cases hneg:cf ((a.length+k:Nat):Int) (i:Int)<0
     ·have e2:decide (cf ((a.length+k:Nat):Int) (i:Int)<0)=true:=decide_eq_true hneg;rw[if_pos hneg] at hks
      have hap:E cC ((o++rng (a.length+k0) (k-k0)).map G)++[[.sl 1 (E cI (b.getD k []))]]=E cC ((o++rng (a.length+k0) (k+1-k0)).map G):=by
       rw[show k+1-k0=(k-k0)+1 by omega,aEm,show a.length+k0+(k-k0)=a.length+k by omega,←List.append_assoc,←aGb,hgb]
      have hal:(E cC ((o++rng (a.length+k0) (k-k0)).map G)).length=o.length+(k-k0):=by rw[aI];simp[xI]
      have hsum:o.length+(k-k0)+1=o.length+(k+1-k0):=by omega
      repeat' first|simp -dsimp only[go_sem,e1,e2,w1,yb,yc,xa,xc,hap,hal,cC,hkl,hkm]|apply Br.mk<;>intro h<;>try simp -dsimp only[h]|refine aD.c (by first|exact HC|exact NB) ?_|refine aC ?_|fail
      all_goals first|omega|(refine⟨⟨k+1,by omega,by omega,hks⟩,?_,by simp only;omega⟩;simp[Vs.LeL,Vs.look,Vs.aB,Vs.aQ,Vs.aL,Vs.hset,Vs.aM,hsum])
     ·have e2:decide (cf ((a.length+k:Nat):Int) (i:Int)<0)=false:=decide_eq_false hneg;rw[if_neg hneg] at hks;subst hks
      have hap:E cC ((o++rng (a.length+k0) (k-k0)).map G)++[[.sl 1 (E cI (a.getD i []))]]=E cC (o1.map G):=by
       rw[hmI,←aGb,hga]
      have hal:(E cC ((o++rng (a.length+k0) (k-k0)).map G)).length=o.length+(k-k0):=by rw[aI];simp[xI]
      have hsum:o.length+(k-k0)+1=o1.length:=by omega
      repeat' first|simp -dsimp only[go_sem,e1,e2,w1,yb,yc,xa,xc,hap,hal,hw,hsum,cC,hkl,hkm]|apply Br.mk<;>intro h<;>try simp -dsimp only[h]|refine aD.c (by first|exact HC|exact NA) ?_|refine And.intro ?_ (fun h=>absurd rfl h)|refine And.intro ?_ (fun h=>absurd rfl h)|refine aC ?_|fail
      all_goals first|omega|(exact⟨⟨(i+1,()),by omega,trivial⟩,by simp[Vs.LeL,Vs.look,Vs.aB,Vs.aQ,Vs.aL,Vs.hset,Vs.aM,hsum,hO1,hK1],by simp only;omega⟩)
    ·obtain rfl:k=b.length:=by omega
     have e1:decide ((b.length:Int)<(b.length:Int))=false:=by simp
     rw[aIn (by omega)] at hks;subst hks
     have hap:E cC ((o++rng (a.length+k0) (b.length-k0)).map G)++[[.sl 1 (E cI (a.getD i []))]]=E cC (o1.map G):=by
      rw[hmI,←aGb,hga]
     have hal:(E cC ((o++rng (a.length+k0) (b.length-k0)).map G)).length=o.length+(b.length-k0):=by rw[aI];simp[xI]
     have hsum:o.length+(b.length-k0)+1=o1.length:=by omega
     repeat' first|simp -dsimp only[go_sem,e1,xa,xc,hap,hal,hw,hsum,cC,hkl,hkm]|apply Br.mk<;>intro h<;>try simp -dsimp only[h]|refine aD.c (by first|exact NA) ?_|refine And.intro ?_ (fun h=>absurd rfl h)|refine And.intro ?_ (fun h=>absurd rfl h)|refine aC ?_|fail
     all_goals first|omega|(exact⟨⟨(i+1,()),by omega,trivial⟩,by simp[Vs.LeL,Vs.look,Vs.aB,Vs.aQ,Vs.aL,Vs.hset,Vs.aM,hsum,hO1,hK1],by simp only;omega⟩)
  ·have hge:i=a.length:=by
    have:¬i<a.length:=Dq;omega
   subst hge;simp -dsimp only[go_sem,cC,hkl,hkm];have hka:=uT cf a.length b.length a.length;have hli:=aBm cf a.length b.length a.length;have hd2:=hdr _ hka
   have hfin:E cC ((mgI cf a.length b.length a.length).map G)++E cC (b.drop (mgK cf a.length b.length a.length))=E cC ((mgF cf a.length b.length).map G):=by
    rw[←hd2,←aY,←List.map_append];rfl
   have hfl:=aKk cf a.length b.length;have hdE:(E cC b).drop (mgK cf a.length b.length a.length)=E cC (b.drop (mgK cf a.length b.length a.length)):=by simp[E,List.map_drop]
   have hdl:(b.drop (mgK cf a.length b.length a.length)).length=b.length-mgK cf a.length b.length a.length:=by simp
   have CP:=aDM (b.drop (mgK cf a.length b.length a.length)) ⟨by omega,fun c hc=>by have:=(ob c (List.mem_of_mem_drop hc)).2.2.2;omega⟩;have hal:(E cC ((mgI cf a.length b.length a.length).map G)).length=(mgI cf a.length b.length a.length).length:=by rw[aI];simp
   have hsum:(mgI cf a.length b.length a.length).length+(b.length-mgK cf a.length b.length a.length)=a.length+b.length:=by omega
   have htk:(E cC ((mgF cf a.length b.length).map G)).take (a.length+b.length)=E cC ((mgF cf a.length b.length).map G):=List.take_of_length_le (by rw[aI,List.length_map];omega);generalize mgF cf a.length b.length=mf at *
   generalize mgK cf a.length b.length a.length=k at *
   generalize mgI cf a.length b.length a.length=o at *
   refine⟨?_,fun h=>h rfl⟩
   repeat' first|simp -dsimp only[go_sem,hdE,hdl,hal,hfin,hsum,htk,cC,hkl,hkm]|apply Br.mk<;>intro h<;>try simp -dsimp only[h]|refine aD.c (by first|exact CP) ?_|refine aC ?_|fail
   all_goals first|omega|exact⟨_,_,rfl,rfl⟩
end
section
variable [Vs.Envs]
attribute [local irreducible] Vs.Fn chOK areCh chTo chAt l03 chB rk cd3 chI stp stpTo stb mJ mgF gQ stF aX iQ eH bD
def wW (a b:List (List Int)):Bool:=decide ((a.length:Int)>0)&&(decide ((b.length:Int)>0)&&(bD a != bD b))
def mgC (fr to:Int) (a b:List (List Int)):Int:=if iQ fr to [a,b]=0 then(if wW a b then 9 else if gQ fr to a&&gQ fr to b then(if(a.length:Int)+(b.length:Int)>40 then 5 else 0) else 6) else iQ fr to [a,b]
def mgV (fr to:Int) (a b:List (List Int)):AV:=if mgC fr to a b=0 then .sl 1 (E cC (eH fr to (a++b))) else .v (.slice none 0 0)
theorem yZ {l:List (List Int)} (h:0<l.length):bD l=((l.getD 0 []).length:Int):=by unfold bD;rw[if_neg (by omega)]
theorem wrap_add {a b:Nat} (h:a≤1048576) (h2:b≤1048576):IntKind.i64.wrap ((a:Int)+(b:Int))=(a:Int)+(b:Int):=aP (by omega) (by omega)
attribute [local go_sem] Int.reduceBEq Int.reduceBNe cD aI List.replicate_succ List.replicate_zero List.flatten_cons List.flatten_nil List.cons_append List.nil_append List.set_cons_zero List.set_cons_succ List.length_cons List.length_nil List.length_set List.mem_singleton List.mem_cons List.not_mem_nil or_false false_or Vs.Name.t.injEq List.flatMap_cons List.flatMap_nil bI dF bH List.getD_cons_zero List.append_nil in
theorem aBe (a b:List (List Int)) (fr to:Int) (O:aU a) (hb:aU b):Fz F.mQ [.sl 1 (E cC a),.sl 1 (E cC b),.agg (cFd fr to)] (.tup [mgV fr to a b,.v (.int .i64 (mgC fr to a b))]):=by
 have Y:=wrap_add O.1 hb.1;by_cases L:iQ fr to [a,b]=0
 rotate_left
 ·have e0:(iQ fr to [a,b] != 0)=true:=by simp[L]
  have G:mgC fr to a b=iQ fr to [a,b]:=by simp[mgC,L]
  rw[show mgV fr to a b=.v (.slice none 0 0) by simp[mgV,G,L],G];have CC:=uI fr to [a,b] (zF O hb);refine fn0 Cd.i_MergeDecks_k fun X=>?_
  repeat' first|simp -dsimp only[go_sem,cC,cFd,e0]|apply Br.mk<;>intro h<;>try simp -dsimp only[h]|refine aD.c (by first|exact CC) ?_|refine aC ?_|fail
  all_goals first|exact⟨_,_,rfl,rfl⟩
 obtain⟨⟨da,db⟩,⟨fa,fb⟩,ca,cb⟩:=aBw L;have oa:=dV da fa;have ob:=dV db fb;have CC:=uI fr to [a,b] (zF O hb);rw[L] at CC;have DA:=gN a;have DB:=gN b;by_cases hA:0<a.length
 ·have M:decide ((a.length:Int)>0)=true:=decide_eq_true (by omega);have wA:=yZ hA;have gA:=aC8 hA;by_cases hB:0<b.length
  ·have eB:decide ((b.length:Int)>0)=true:=decide_eq_true (by omega);have wB:=yZ hB;have gB:=aC8 hB;cases eW:(bD a != bD b)
   ·have U:=eW;rw[wA,wB] at U;have I:wW a b=false:=by simp only[wW,M,eB,eW];rfl
    cases h1:gQ fr to a
    ·have H:=aT a fr to oa O.1;have J:=aT b fr to ob hb.1;rw[h1] at H;have G:mgC fr to a b=6:=by simp[mgC,L,I,h1]
     rw[show mgV fr to a b=.v (.slice none 0 0) by simp[mgV,G],G];refine fn0 Cd.i_MergeDecks_k fun X=>?_
     repeat' first|simp -dsimp only[go_sem,cC,cFd,M,eB,eW,U,gA,gB]|apply Br.mk<;>intro h<;>try simp -dsimp only[h]|refine aD.c (by first|exact CC|exact DA|exact DB|exact H|exact J) ?_|refine aC ?_|fail
     all_goals first|exact⟨_,_,rfl,rfl⟩
    cases h2:gQ fr to b
    ·have H:=aT a fr to oa O.1;have J:=aT b fr to ob hb.1;rw[h1] at H;rw[h2] at J;have G:mgC fr to a b=6:=by simp[mgC,L,I,h1,h2]
     rw[show mgV fr to a b=.v (.slice none 0 0) by simp[mgV,G],G];refine fn0 Cd.i_MergeDecks_k fun X=>?_
     repeat' first|simp -dsimp only[go_sem,cC,cFd,M,eB,eW,U,gA,gB]|apply Br.mk<;>intro h<;>try simp -dsimp only[h]|refine aD.c (by first|exact CC|exact DA|exact DB|exact H|exact J) ?_|refine aC ?_|fail
     all_goals first|exact⟨_,_,rfl,rfl⟩
    by_cases hs:(a.length:Int)+(b.length:Int)>40
    ·have e5:decide ((a.length:Int)+(b.length:Int)>40)=true:=decide_eq_true hs;have H:=aT a fr to oa O.1;have J:=aT b fr to ob hb.1;rw[h1] at H;rw[h2] at J;have G:mgC fr to a b=5:=by simp[mgC,L,I,h1,h2,hs]
     rw[show mgV fr to a b=.v (.slice none 0 0) by simp[mgV,G],G];refine fn0 Cd.i_MergeDecks_k fun X=>?_
     repeat' first|simp -dsimp only[go_sem,cC,cFd,M,eB,eW,U,gA,gB,Y,e5]|apply Br.mk<;>intro h<;>try simp -dsimp only[h]|refine aD.c (by first|exact CC|exact DA|exact DB|exact H|exact J) ?_|refine aC ?_|fail
     all_goals first|exact⟨_,_,rfl,rfl⟩
    ·have e5:decide ((a.length:Int)+(b.length:Int)>40)=false:=decide_eq_false hs;have H:=aT a fr to oa O.1;have J:=aT b fr to ob hb.1;rw[h1] at H;rw[h2] at J;have G:mgC fr to a b=0:=by simp[mgC,L,I,h1,h2,hs]
     rw[show mgV fr to a b=.sl 1 (E cC (eH fr to (a++b))) by simp[mgV,G],G]
     have hf:∀c,c∈a++b→okF fr to c:=fun c L=>by
      rcases List.mem_append.1 L with h|h
      ·exact oa c h
      ·exact ob c h
     have SB:=zD (a++b) fr to hf (by simp;omega);have he:E cC a++E cC b=E cC (a++b):=by rw[aY]
     have hd:(E cC (a++b)).take (a.length+b.length)=E cC (a++b):=List.take_of_length_le (by rw[aI];simp);refine fn0 Cd.i_MergeDecks_k fun X=>?_
     repeat' first|simp -dsimp only[go_sem,cC,cFd,M,eB,eW,U,gA,gB,Y,e5,he,hd]|apply Br.mk<;>intro h<;>try simp -dsimp only[h]|refine aD.c (by first|exact CC|exact DA|exact DB|exact H|exact J) ?_|refine aC ?_|fail
     refine aD.own (zV a O.2 O.1) rfl ?_
     repeat' first|simp -dsimp only[go_sem,cC,cFd,M,eB,eW,U,gA,gB,Y,e5,he,hd]|apply Br.mk<;>intro h<;>try simp -dsimp only[h]|refine aD.c (by first|exact SB) ?_|refine aC ?_|fail
     all_goals first|omega|exact⟨_,_,rfl,rfl⟩
   ·have U:=eW;rw[wA,wB] at U;have I:wW a b=true:=by simp only[wW,M,eB,eW];rfl
    have G:mgC fr to a b=9:=by simp[mgC,L,I]
    rw[show mgV fr to a b=.v (.slice none 0 0) by simp[mgV,G],G];refine fn0 Cd.i_MergeDecks_k fun X=>?_
    repeat' first|simp -dsimp only[go_sem,cC,cFd,M,eB,eW,U,gA,gB]|apply Br.mk<;>intro h<;>try simp -dsimp only[h]|refine aD.c (by first|exact CC|exact DA|exact DB) ?_|refine aC ?_|fail
    all_goals first|exact⟨_,_,rfl,rfl⟩
  ·have eB:decide ((b.length:Int)>0)=false:=decide_eq_false (by omega);have I:wW a b=false:=by simp only[wW,M,eB];rfl
   cases h1:gQ fr to a
   ·have H:=aT a fr to oa O.1;have J:=aT b fr to ob hb.1;rw[h1] at H;have G:mgC fr to a b=6:=by simp[mgC,L,I,h1]
    rw[show mgV fr to a b=.v (.slice none 0 0) by simp[mgV,G],G];refine fn0 Cd.i_MergeDecks_k fun X=>?_
    repeat' first|simp -dsimp only[go_sem,cC,cFd,M,eB]|apply Br.mk<;>intro h<;>try simp -dsimp only[h]|refine aD.c (by first|exact CC|exact DA|exact DB|exact H|exact J) ?_|refine aC ?_|fail
    all_goals first|exact⟨_,_,rfl,rfl⟩
   cases h2:gQ fr to b
   ·have H:=aT a fr to oa O.1;have J:=aT b fr to ob hb.1;rw[h1] at H;rw[h2] at J;have G:mgC fr to a b=6:=by simp[mgC,L,I,h1,h2]
    rw[show mgV fr to a b=.v (.slice none 0 0) by simp[mgV,G],G];refine fn0 Cd.i_MergeDecks_k fun X=>?_
    repeat' first|simp -dsimp only[go_sem,cC,cFd,M,eB]|apply Br.mk<;>intro h<;>try simp -dsimp only[h]|refine aD.c (by first|exact CC|exact DA|exact DB|exact H|exact J) ?_|refine aC ?_|fail
    all_goals first|exact⟨_,_,rfl,rfl⟩
   by_cases hs:(a.length:Int)+(b.length:Int)>40
   ·have e5:decide ((a.length:Int)+(b.length:Int)>40)=true:=decide_eq_true hs;have H:=aT a fr to oa O.1;have J:=aT b fr to ob hb.1;rw[h1] at H;rw[h2] at J;have G:mgC fr to a b=5:=by simp[mgC,L,I,h1,h2,hs]
    rw[show mgV fr to a b=.v (.slice none 0 0) by simp[mgV,G],G];refine fn0 Cd.i_MergeDecks_k fun X=>?_
    repeat' first|simp -dsimp only[go_sem,cC,cFd,M,eB,Y,e5]|apply Br.mk<;>intro h<;>try simp -dsimp only[h]|refine aD.c (by first|exact CC|exact DA|exact DB|exact H|exact J) ?_|refine aC ?_|fail
    all_goals first|exact⟨_,_,rfl,rfl⟩
   ·have e5:decide ((a.length:Int)+(b.length:Int)>40)=false:=decide_eq_false hs;have H:=aT a fr to oa O.1;have J:=aT b fr to ob hb.1;rw[h1] at H;rw[h2] at J;have G:mgC fr to a b=0:=by simp[mgC,L,I,h1,h2,hs]
    rw[show mgV fr to a b=.sl 1 (E cC (eH fr to (a++b))) by simp[mgV,G],G]
    have hf:∀c,c∈a++b→okF fr to c:=fun c L=>by
     rcases List.mem_append.1 L with h|h
     ·exact oa c h
     ·exact ob c h
    have SB:=zD (a++b) fr to hf (by simp;omega);have he:E cC a++E cC b=E cC (a++b):=by rw[aY]
    have hd:(E cC (a++b)).take (a.length+b.length)=E cC (a++b):=List.take_of_length_le (by rw[aI];simp);refine fn0 Cd.i_MergeDecks_k fun X=>?_
    repeat' first|simp -dsimp only[go_sem,cC,cFd,M,eB,Y,e5,he,hd]|apply Br.mk<;>intro h<;>try simp -dsimp only[h]|refine aD.c (by first|exact CC|exact DA|exact DB|exact H|exact J) ?_|refine aC ?_|fail
    refine aD.own (zV a O.2 O.1) rfl ?_
    repeat' first|simp -dsimp only[go_sem,cC,cFd,M,eB,Y,e5,he,hd]|apply Br.mk<;>intro h<;>try simp -dsimp only[h]|refine aD.c (by first|exact SB) ?_|refine aC ?_|fail
    all_goals first|omega|exact⟨_,_,rfl,rfl⟩
 ·have M:decide ((a.length:Int)>0)=false:=decide_eq_false (by omega);have I:wW a b=false:=by simp only[wW,M];rfl
  cases h1:gQ fr to a
  ·have H:=aT a fr to oa O.1;have J:=aT b fr to ob hb.1;rw[h1] at H;have G:mgC fr to a b=6:=by simp[mgC,L,I,h1]
   rw[show mgV fr to a b=.v (.slice none 0 0) by simp[mgV,G],G];refine fn0 Cd.i_MergeDecks_k fun X=>?_
   repeat' first|simp -dsimp only[go_sem,cC,cFd,M]|apply Br.mk<;>intro h<;>try simp -dsimp only[h]|refine aD.c (by first|exact CC|exact DA|exact DB|exact H|exact J) ?_|refine aC ?_|fail
   all_goals first|exact⟨_,_,rfl,rfl⟩
  cases h2:gQ fr to b
  ·have H:=aT a fr to oa O.1;have J:=aT b fr to ob hb.1;rw[h1] at H;rw[h2] at J;have G:mgC fr to a b=6:=by simp[mgC,L,I,h1,h2]
   rw[show mgV fr to a b=.v (.slice none 0 0) by simp[mgV,G],G];refine fn0 Cd.i_MergeDecks_k fun X=>?_
   repeat' first|simp -dsimp only[go_sem,cC,cFd,M]|apply Br.mk<;>intro h<;>try simp -dsimp only[h]|refine aD.c (by first|exact CC|exact DA|exact DB|exact H|exact J) ?_|refine aC ?_|fail
   all_goals first|exact⟨_,_,rfl,rfl⟩
  by_cases hs:(a.length:Int)+(b.length:Int)>40
  ·have e5:decide ((a.length:Int)+(b.length:Int)>40)=true:=decide_eq_true hs;have H:=aT a fr to oa O.1;have J:=aT b fr to ob hb.1;rw[h1] at H;rw[h2] at J;have G:mgC fr to a b=5:=by simp[mgC,L,I,h1,h2,hs]
   rw[show mgV fr to a b=.v (.slice none 0 0) by simp[mgV,G],G];refine fn0 Cd.i_MergeDecks_k fun X=>?_
   repeat' first|simp -dsimp only[go_sem,cC,cFd,M,Y,e5]|apply Br.mk<;>intro h<;>try simp -dsimp only[h]|refine aD.c (by first|exact CC|exact DA|exact DB|exact H|exact J) ?_|refine aC ?_|fail
   all_goals first|exact⟨_,_,rfl,rfl⟩
  ·have e5:decide ((a.length:Int)+(b.length:Int)>40)=false:=decide_eq_false hs;have H:=aT a fr to oa O.1;have J:=aT b fr to ob hb.1;rw[h1] at H;rw[h2] at J;have G:mgC fr to a b=0:=by simp[mgC,L,I,h1,h2,hs]
   rw[show mgV fr to a b=.sl 1 (E cC (eH fr to (a++b))) by simp[mgV,G],G]
   have hf:∀c,c∈a++b→okF fr to c:=fun c L=>by
    rcases List.mem_append.1 L with h|h
    ·exact oa c h
    ·exact ob c h
   have SB:=zD (a++b) fr to hf (by simp;omega);have he:E cC a++E cC b=E cC (a++b):=by rw[aY]
   have hd:(E cC (a++b)).take (a.length+b.length)=E cC (a++b):=List.take_of_length_le (by rw[aI];simp);refine fn0 Cd.i_MergeDecks_k fun X=>?_
   repeat' first|simp -dsimp only[go_sem,cC,cFd,M,Y,e5,he,hd]|apply Br.mk<;>intro h<;>try simp -dsimp only[h]|refine aD.c (by first|exact CC|exact DA|exact DB|exact H|exact J) ?_|refine aC ?_|fail
   refine aD.own (zV a O.2 O.1) rfl ?_
   repeat' first|simp -dsimp only[go_sem,cC,cFd,M,Y,e5,he,hd]|apply Br.mk<;>intro h<;>try simp -dsimp only[h]|refine aD.c (by first|exact SB) ?_|refine aC ?_|fail
   all_goals first|omega|exact⟨_,_,rfl,rfl⟩
end
end Go.Proofs.YtkgeiaideklmoaaGreat
