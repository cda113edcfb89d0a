/- Merging: the program and the reference. -/
import Derived.Test.YthbnjmgjhonfbaaGreatTwSq
import Derived.Test.YthbnjmgjhonfbaaGreatTwQd
import Derived.Test.YthbnjmgjhonfbaaGreatTwQb
import Derived.Test.YthbnjmgjhonfbaaGreatVtR
import Derived.Test.YthbnjmgjhonfbaaGreatTwSh
import Derived.Test.YthbnjmgjhonfbaaGreatTuF
import Derived.Test.YthbnjmgjhonfbaaGreatTuR
set_option linter.all false
set_option maxHeartbeats 8000000
namespace Go.Proofs.YthbnjmgjhonfbaaGreat
open Go.Vs
section
variable [Vs.Envs]
attribute [local irreducible] Vs.Fn jY lU fV bT cZ aW dB dC l03 chB rk cd3 chI stp aZ
theorem aHT (a:List Int) (fr to:Int) (ha:okF fr to a) (hh:cK (fH fr to a)=true):Fz F.pF [.agg (cC a),.agg (cFd fr to)] (.v (.string (txt (fH fr to a)))):=by
 refine fn0 Cd.i_fieldText_k fun X=>?_
 repeat' first|simp -dsimp only[go_sem,cC,cFd,fH_E,List.replicate_succ,List.replicate_zero,List.flatten_cons,List.flatten_nil,List.cons_append,List.nil_append,List.set_cons_zero,List.set_cons_succ,List.length_cons,List.length_nil,List.length_set,List.getD_cons_zero]|apply Br.mk<;>intro h<;>try simp -dsimp only[h]|refine RgK.mk rfl ?_|refine aA.c (by first|exact textOf _ (aAC ha) hh) ?_|refine And.intro (by first|rfl|omega|decide|exact bZ ha|exact bZ hb|exact⟨rfl,bZ ha⟩|exact⟨rfl,bZ hb⟩|exact bF ha|exact bF hb|exact⟨rfl,bF ha⟩|exact⟨rfl,bF hb⟩|(refine⟨?_,?_⟩<;>(first|rfl|omega|decide|exact bZ ha|exact bZ hb|exact⟨rfl,bZ ha⟩|exact⟨rfl,bZ hb⟩|exact bF ha|exact bF hb|exact⟨rfl,bF ha⟩|exact⟨rfl,bF hb⟩))|(refine⟨?_,?_,?_⟩<;>(first|rfl|omega|decide|exact bZ ha|exact bZ hb|exact⟨rfl,bZ ha⟩|exact⟨rfl,bZ hb⟩|exact bF ha|exact bF hb|exact⟨rfl,bF ha⟩|exact⟨rfl,bF hb⟩))|(refine⟨?_,?_,?_,?_⟩<;>(first|rfl|omega|decide|exact bZ ha|exact bZ hb|exact⟨rfl,bZ ha⟩|exact⟨rfl,bZ hb⟩|exact bF ha|exact bF hb|exact⟨rfl,bF ha⟩|exact⟨rfl,bF hb⟩))) ?_|fail
 all_goals(simp_all)
theorem aE6 {fr to:Int}{l:List (List Int)}{g:List (List Int)} (h:g∈aCk fr to l):0<g.length∧g.length≤l.length∧∀c,c∈g→c∈l:=by
 unfold aCk at h;obtain⟨i,hi,rfl⟩:=List.mem_map.1 h;have hi:=List.mem_range.1 hi;have hin:=uM (fr:=fr) (to:=to) (l:=l) l.length;have hup:=aAv (fr:=fr) (to:=to) (l:=l) l.length;generalize bT fr to l l.length=s at *
 have h0:=hin _ (List.getElem_mem hi);have e:s.getD i 0=s[i]:=by simp[List.getD,hi]
 unfold fV;rw[e];refine⟨?_,?_,fun c hc=>List.mem_of_mem_take (List.mem_of_mem_drop hc)⟩
 ·rw[List.length_drop,List.length_take];split
  ·rename_i h1;have hs1:=hin _ (List.getElem_mem h1);have hlt2:s[i]<s[i+1]:=List.pairwise_iff_getElem.1 hup i (i+1) hi h1 (by omega);rw[show s.getD (i+1) 0=s[i+1] by simp[List.getD,h1]];omega
  ·omega
 ·rw[List.length_drop,List.length_take];omega
theorem aCj (fr to:Int) (l:List (List Int)):(aCk fr to l).length≤l.length:=by
 unfold aCk;rw[List.length_map,List.length_range];exact jX fr to l l.length
def cTt (t:ByteArray×Int):List AV:=[.v (.string t.1),.v (.int .i64 t.2)]
def kU (fr to sf st:Int) (l:List (List Int)):List (ByteArray×Int):=(aCk fr to l).map fun g=>(txt (fH fr to (g.getD 0 [])),jY sf st g)
def iX (fr to sf st:Int) (l:List (List Int)):Bool:=zL sf st l&&bI fr to l
def nJ (fr to sf st:Int) (l:List (List Int)):AV:=if iX fr to sf st l then .sl 2 (E cTt (kU fr to sf st l)) else .v (.slice none 0 0)
attribute [local irreducible] aCk
attribute [local go_sem] aH List.replicate_succ List.replicate_zero List.flatten_cons List.flatten_nil List.cons_append List.nil_append List.set_cons_zero List.set_cons_succ List.length_cons List.length_nil List.length_set List.getD_cons_zero cD List.mem_singleton Vs.Name.t.injEq List.mem_cons List.not_mem_nil or_false false_or in
theorem aEl (l:List (List Int)) (fr to sf st:Int) (ho:∀c,c∈l→okF fr to c) (hp:∀c,c∈l→okP sf st c) (hl:l.length≤1048576):Fz F.oD [.sl 1 (E cC l),.agg (cFd fr to),.agg (cFd sf st)] (.tup [nJ fr to sf st l,.v (.int .i64 (if iX fr to sf st l then 0 else 8))]):=by
 have SO:=aIa l sf st hp hl;have HF:=oI l fr to ho hl;have GR:=groups l fr to ho hl;cases hN:zL sf st l
 ·rw[hN] at SO;have hb:iX fr to sf st l=false:=by simp[iX,hN]
  rw[show nJ fr to sf st l=.v (.slice none 0 0) by simp[nJ,hb],hb];refine fn0 Cd.i_totalsOf_k fun X=>?_
  repeat' first|simp -dsimp only[go_sem,cC,cFd]|apply Br.mk<;>intro h<;>try simp -dsimp only[h]|refine aA.c (by first|exact SO|exact HF) ?_|refine aC ?_|fail
  all_goals first|exact⟨_,_,rfl,rfl⟩|simp
 rw[hN] at SO;cases hC:bI fr to l
 ·rw[hC] at HF;have hb:iX fr to sf st l=false:=by simp[iX,hC]
  rw[show nJ fr to sf st l=.v (.slice none 0 0) by simp[nJ,hb],hb];refine fn0 Cd.i_totalsOf_k fun X=>?_
  repeat' first|simp -dsimp only[go_sem,cC,cFd]|apply Br.mk<;>intro h<;>try simp -dsimp only[h]|refine aA.c (by first|exact SO|exact HF) ?_|refine aC ?_|fail
  all_goals first|exact⟨_,_,rfl,rfl⟩|simp
 rw[hC] at HF;have hb:iX fr to sf st l=true:=by simp[iX,hN,hC]
 rw[show nJ fr to sf st l=.sl 2 (E cTt (kU fr to sf st l)) by simp[nJ,hb],hb];have hgm:∀g,g∈aCk fr to l→0<g.length∧g.length≤l.length∧∀c,c∈g→c∈l:=fun g hg=>aE6 hg;have hGl:=aCj fr to l;unfold kU;generalize aCk fr to l=G at *
 refine fn0 Cd.i_totalsOf_k fun X=>?_
 repeat' first|simp -dsimp only[go_sem,cC,cFd]|apply Br.mk<;>intro h<;>try simp -dsimp only[h]|refine aA.c (by first|exact SO|exact HF|exact GR) ?_|refine aC ?_|fail
 refine aN.at dM (X:={zz:Nat×(Unit) // zz.1≤G.length∧True}) (fun zz=>[(10,.loc (.t 10 0) 0 zz.1.1),(35,.v (.int .i64 zz.1.1))]) (fun zz=>[(.t 10 0,.arr 2 (E cTt ((G.take zz.1.1).map fun g=>(txt (fH fr to (g.getD 0 [])),jY sf st g))) false)]) (fun zz=>G.length-zz.1.1) ⟨(0,()),by omega,trivial⟩ ?_ ?_
 ·simp[Vs.LeL,Vs.look,Vs.aB,Vs.aP,Vs.aK,Vs.hset,Vs.aL,Vs.E]
 ·rintro⟨⟨i,_⟩,hi,hg⟩;dsimp only at hi hg;simp -dsimp only[go_sem,cC,cFd];refine Br.mk (fun hc=>?_) fun hc=>?_
  ·have hlt:i<G.length:=Dq;have hw:=aG hlt (by omega);obtain⟨g0,g1,g2⟩:=hgm _ (List.getElem_mem hlt);have hgi:(E cD G).getD i []=[.sl 1 (E cC G[i])]:=aX hlt;have SG:=aIa G[i] sf st (fun c hc=>hp c (g2 c hc)) (by omega);have hNg:zL sf st G[i]=true:=List.all_eq_true.2 fun c hc=>List.all_eq_true.1 hN c (g2 c hc);rw[show aBS sf st G[i]=.sl 1 (E cI [jY sf st G[i]]) by simp[aBS,hNg],hNg] at SG;have hm0:G[i].getD 0 []∈G[i]:=by rw[show G[i].getD 0 []=G[i][0] by simp[List.getD,g0]];exact List.getElem_mem g0
   have hg0:(E cC G[i]).getD 0 []=[.sl 1 (E cI (G[i].getD 0 []))]:=by rw[aX g0];simp[cC,List.getD,g0]
   have FT:=aHT (G[i].getD 0 []) fr to (ho _ (g2 _ hm0)) (List.all_eq_true.1 hC _ (g2 _ hm0));have hs0:(E cI [jY sf st G[i]]).getD 0 []=[.v (.int .i64 (jY sf st G[i]))]:=rfl
   have hap:E cTt ((G.take i).map fun g=>(txt (fH fr to (g.getD 0 [])),jY sf st g))++[[.v (.string (txt (fH fr to (G[i].getD 0 [])))),.v (.int .i64 (jY sf st G[i]))]]=E cTt ((G.take (i+1)).map fun g=>(txt (fH fr to (g.getD 0 [])),jY sf st g)):=by
    rw[bL hlt,List.map_append,aY];rfl
   have hal:(E cTt ((G.take i).map fun g=>(txt (fH fr to (g.getD 0 [])),jY sf st g))).length=i:=by rw[aH];simp;omega
   simp -dsimp only[go_sem,hgi,hg0,hs0,hw,hal,cC,cFd]
   repeat' first|simp -dsimp only[go_sem,hgi,hg0,hs0,hw,hap,hal,cC,cFd]|apply Br.mk<;>intro h<;>try simp -dsimp only[h]|refine aA.c (by first|exact SG|exact FT) ?_|refine aC ?_|fail
   all_goals first|omega|(exact nx (i+1,()) trivial (h2:=by simp[Vs.LeL,Vs.look,Vs.aB,Vs.aP,Vs.aK,Vs.hset,Vs.aL,hap]))
  ·have hge:i=G.length:=by
    have:¬i<G.length:=Dq;omega
   subst hge;simp -dsimp only[go_sem,cC,cFd]
   have htk:(E cTt ((G.take G.length).map fun g=>(txt (fH fr to (g.getD 0 [])),jY sf st g))).take G.length=E cTt (G.map fun g=>(txt (fH fr to (g.getD 0 [])),jY sf st g)):=by
    rw[List.take_of_length_le (Nat.le_refl G.length)];exact List.take_of_length_le (by rw[aH];simp)
   first|exact⟨⟨_,_,rfl,rfl⟩,fun h=>h rfl⟩|(rw[htk];exact⟨⟨_,_,rfl,rfl⟩,fun h=>h rfl⟩)|(simp[htk];done)
end
section
variable [Vs.Envs]
attribute [local irreducible] Vs.Fn cZ aW dB dC l03 chB rk cd3 chI stp aZ
theorem aMk (w:Nat) (hw:w≤1000):Vs.Fn Tryz.prog F.yF [] [.v (.int .i64 w)] (.agg [.loc (.b 0) 0 w]) [some (.arr 1 (List.replicate w [.v (.int .i64 0)]) false)]:=by
 have hz:((w:Int)).toNat=w:=by omega
 refine fn1 Cd.i_blank_k [.t 4 0] [.arr 1 (List.replicate w [.v (.int .i64 0)]) false] fun X=>?_;unfold Cd.yF
 repeat' first|simp -dsimp only[go_sem,aH,List.set_cons_zero,List.set_cons_succ,List.length_cons,List.length_nil,List.length_set,List.length_replicate,List.flatMap_cons,List.flatMap_nil,bC,bO,bB,List.getD_cons_zero,List.append_nil,List.nil_append,List.cons_append,hz]|apply Br.mk<;>intro h<;>try simp -dsimp only[h]|refine aC ?_|fail
 all_goals first|exact⟨_,_,rfl,rfl⟩
def bcd (s:ByteArray):List Int:=s.data.toList.map fun b=>cd3 (b.toNat:Int)
def oV (s:ByteArray) (w i:Nat):List Int:=(bcd s).take i++List.replicate (w-i) 0
def pun (s:ByteArray) (w:Nat):List Int:=bcd s++List.replicate (w-s.size) 0
theorem aBM (s:ByteArray):(bcd s).length=s.size:=by simp[bcd]
theorem aFI (s:ByteArray) (w:Nat):E cI (oV s w 0)=List.replicate w [.v (.int .i64 0)]:=by simp[oV,E,cI]
theorem aB1 (s:ByteArray) (w:Nat):oV s w s.size=pun s w:=by
 unfold oV pun;rw[List.take_of_length_le (by rw[aBM];exact Nat.le_refl _)]
theorem x8 {s:ByteArray}{w i:Nat} (h:i≤s.size) (hw:s.size≤w):(oV s w i).length=w:=by
 have:=aBM s;simp[oV];omega
theorem aHu {s:ByteArray}{w i:Nat} (h:i<s.size) (hw:s.size≤w):(E cI (oV s w i)).set i [.v (.int .i64 (cd3 ((s.data.toList.getD i 0).toNat:Int)))]=E cI (oV s w (i+1)):=by
 have hl:=aBM s;have hib:i<(bcd s).length:=by omega
 have hA:((bcd s).take i).length=i:=by simp;omega
 have hb:(bcd s)[i]=cd3 ((s.data.toList.getD i 0).toNat:Int):=by
  have hi2:i<s.data.toList.length:=by simpa[bcd] using hib
  have e2:s.data.toList.getD i 0=s.data.toList[i]:=by rw[List.getD_eq_getElem?_getD,List.getElem?_eq_getElem hi2];rfl
  rw[e2];simp[bcd]
 have e:(oV s w i).set i (cd3 ((s.data.toList.getD i 0).toNat:Int))=oV s w (i+1):=by
  unfold oV;rw[show w-i=(w-(i+1))+1 by omega,List.replicate_succ,List.set_append,if_neg (by omega),hA,Nat.sub_self,List.set_cons_zero,bL hib,hb];simp
 rw[←e];simp[E,List.map_set,cI]
attribute [local irreducible] oV
attribute [local go_sem] aH List.set_cons_zero List.set_cons_succ List.length_cons List.length_nil List.length_set List.length_replicate List.flatMap_cons List.flatMap_nil bC bO bB List.getD_cons_zero List.append_nil List.nil_append List.cons_append in
theorem aHt (s:ByteArray) (w:Nat) (hw:w≤1000) (hs:s.size≤w):Fz F.pE [.v (.string s),.v (.int .i64 w)] (.agg [.sl 1 (E cI (pun s w))]):=by
 have BL:=aMk w hw;refine fn0 Cd.i_punchText_k fun X=>?_;simp -dsimp only[go_sem];refine aA.own BL rfl ?_
 repeat' first|simp -dsimp only[go_sem]|apply Br.mk<;>intro h<;>try simp -dsimp only[h]|refine aC ?_|fail
 refine aN.at dM (X:={zz:Nat×(Unit) // zz.1≤s.size∧True}) (fun zz=>[(6,.v (.int .i64 zz.1.1))]) (fun zz=>[(.t 8 0,.arr 1 (E cI (oV s w zz.1.1)) false)]) (fun zz=>s.size-zz.1.1) ⟨(0,()),by omega,trivial⟩ ?_ ?_
 ·simp[Vs.LeL,Vs.look,Vs.aB,Vs.aP,Vs.aK,Vs.hset,Vs.aL,aFI]
 ·rintro⟨⟨i,_⟩,hi,hg⟩;dsimp only at hi hg;simp -dsimp only[go_sem];refine Br.mk (fun hc=>?_) fun hc=>?_
  ·have hlt:i<s.size:=Dq;have hw:=aG hlt (by omega);have hps:=aHu (w:=w) hlt hs;have hpl:(E cI (oV s w i)).length=w:=by rw[aH];exact x8 (by omega) hs
   have CO:=codeOf ((s.data.toList.getD i 0).toNat:Int)
   have hrow:∃y,(E cI (oV s w i)).getD i []=[y]:=by
    have hil:i<(oV s w i).length:=by rw[x8 (by omega) hs];omega
    exact⟨.v (.int .i64 (oV s w i)[i]),by rw[aX hil];rfl⟩
   obtain⟨y,hy⟩:=hrow
   repeat' first|simp -dsimp only[go_sem,hw,hps,hpl,hy]|apply Br.mk<;>intro h<;>try simp -dsimp only[h]|refine aA.c (by first|exact CO) ?_|refine aC ?_|fail
   all_goals first|omega|(exact nx (i+1,()) trivial (h2:=by simp[Vs.LeL,Vs.look,Vs.aB,Vs.aP,Vs.aK,Vs.hset,Vs.aL,hps]))
  ·have hge:i=s.size:=by
    have:¬i<s.size:=Dq;omega
   subst hge;simp -dsimp only[go_sem];have hpf:=aB1 s w;have hpl:(E cI (pun s w)).length=w:=by rw[aH,←hpf];exact x8 (Nat.le_refl _) hs
   have htk:(E cI (pun s w)).take w=E cI (pun s w):=List.take_of_length_le (by omega)
   first|(rw[hpf,htk];exact⟨⟨_,_,rfl,rfl⟩,fun h=>h rfl⟩)|(simp[hpf,htk];done)
end
section
variable [Vs.Envs]
attribute [local irreducible] Vs.Fn pun cZ aW dB dC l03 chB rk cd3 chI stp aZ
theorem aKv {s:ByteArray}{w:Nat} (h:s.size≤w):(pun s w).length=w:=by rw[←aB1];exact x8 (Nat.le_refl _) h
def cmT (fr to:Int) (c:List Int) (s:ByteArray):Int:=jC (fH fr to c) (pun s (to.toNat-fr.toNat))
theorem aFg (a:List Int) (fr to:Int) (s:ByteArray) (ha:okF fr to a) (hs:s.size≤to.toNat-fr.toNat):Fz F.jV [.agg (cC a),.agg (cFd fr to),.v (.string s)] (.v (.int .i64 (cmT fr to a s))):=by
 have hf:=lC ha;have h3:=ha;obtain⟨h0,h1,h2,h20⟩:=h3;have PT:=aHt s (to.toNat-fr.toNat) (by omega) hs;have hw:IntKind.i64.wrap (to-fr)=((to.toNat-fr.toNat:Nat):Int):=by rw[aR (by omega) (by omega)];omega
 have CH:=aAE (fH fr to a) (pun s (to.toNat-fr.toNat)) (aAC ha) (by rw[hf,aKv hs]);rw[show jC (fH fr to a) (pun s (to.toNat-fr.toNat))=cmT fr to a s from rfl] at CH;refine fn0 Cd.i_compareText_k fun X=>?_
 repeat' first|simp -dsimp only[go_sem,cC,cFd,fH_E,List.set_cons_zero,List.set_cons_succ,List.length_cons,List.length_nil,hw]|apply Br.mk<;>intro h<;>try simp -dsimp only[h]|refine RgK.mk rfl ?_|refine aA.c (by first|exact PT|exact CH) ?_|refine And.intro (by first|rfl|omega|decide|exact bZ ha|exact⟨rfl,bZ ha⟩|exact bF ha|exact⟨rfl,bF ha⟩|(refine⟨?_,?_⟩<;>(first|rfl|omega|decide|exact bZ ha|exact⟨rfl,bZ ha⟩|exact bF ha|exact⟨rfl,bF ha⟩))|(refine⟨?_,?_,?_⟩<;>(first|rfl|omega|decide|exact bZ ha|exact⟨rfl,bZ ha⟩|exact bF ha|exact⟨rfl,bF ha⟩))|(refine⟨?_,?_,?_,?_⟩<;>(first|rfl|omega|decide|exact bZ ha|exact⟨rfl,bZ ha⟩|exact bF ha|exact⟨rfl,bF ha⟩))) ?_|fail
 all_goals first|exact⟨_,_,rfl,rfl⟩|simp
end
section
variable [Vs.Envs]
attribute [local irreducible] Vs.Fn pun cmT flt zR cZ aW dB dC l03 chB rk cd3 chI stp aZ
def iI (fr to:Int) (s:ByteArray) (c:List Int):Bool:=decide (cmT fr to c s<0)||decide (cmT fr to c s>0)
theorem sel1 (x:List Int) (fr to:Int) (s:ByteArray) (hx:okF fr to x) (hs:s.size≤to.toNat-fr.toNat):Fz F.eZ [.agg (cC x),.ro (cFd fr to),.ro [.v (.string s)],.ro [.v (.string s)]] (.v (.bool (iI fr to s x))):=by
 have CT:=aFg x fr to s hx hs;unfold iI;generalize cmT fr to x s=v at *
 refine fn0 Cd.i_SelectBetween_1_k fun X=>?_
 repeat' first|simp -dsimp only[go_sem,cC,cFd,List.replicate_succ,List.replicate_zero,List.flatten_cons,List.flatten_nil,List.cons_append,List.nil_append,List.set_cons_zero,List.set_cons_succ,List.length_cons,List.length_nil,List.length_set]|apply Br.mk<;>intro h<;>try simp -dsimp only[h]|refine aA.c (by first|exact CT) ?_|refine aC ?_|fail
 all_goals first|exact⟨_,_,rfl,rfl⟩|(rw[h,Bool.false_or];exact⟨_,_,rfl,rfl⟩)
def gF (fr to:Int) (s:ByteArray) (l:List (List Int)):Int:=yM fr to [s,s] [l]
def iZ (fr to:Int) (s:ByteArray) (l:List (List Int)):AV:=if gF fr to s l=0 then .sl 1 (E cC (flt (iI fr to s) l)) else .v (.slice none 0 0)
theorem aGr {fr to:Int}{s:ByteArray}{l:List (List Int)} (h:gF fr to s l=0):aS l=true∧dJ fr to (aT l)=true∧((s.size:Int)==W (to-fr))=true∧aW s=true∧bI fr to l=true:=by
 unfold gF yM at h;cases h1:aS l<;>cases h2:dJ fr to (aT l)<;>cases h3:((s.size:Int)==W (to-fr))<;>cases h4:aW s<;>cases h5:bI fr to l<;>simp[h1,h2,h3,h4,h5] at h⊢
theorem aCK (l:List (List Int)) (fr to:Int) (s:ByteArray) (hk:bA l) (hz:s.size≤1048576):Fz F.jJ [.sl 1 (E cC l),.agg (cFd fr to),.v (.string s),.v (.string s)] (.tup [iZ fr to s l,.v (.int .i64 (gF fr to s l))]):=by
 have CC:=aJD fr to [l] ⟨by simp,fun d hd=>by simp at hd;subst hd;exact hk⟩ [s,s] (by simp) (fun t ht=>by simp at ht;subst ht;exact hz);rw[show yM fr to [s,s] [l]=gF fr to s l from rfl] at CC;by_cases h0:gF fr to s l=0
 ·obtain⟨hd,hf,hsz,hch,hall⟩:=aGr h0;have ho:=dW hd hf;rw[show iZ fr to s l=.sl 1 (E cC (flt (iI fr to s) l)) by simp[iZ,h0],h0];rw[h0] at CC
  have hsn:∀x,x∈l→s.size≤to.toNat-fr.toNat:=fun x hx=>by
   have hz2:((s.size:Int))=W (to-fr):=by simpa using hsz
   obtain⟨f0,f1,f2,f3⟩:=ho x hx;rw[show W (to-fr)=to-fr from aR (by omega) (by omega)] at hz2;omega
  have hd2:=delF (iI fr to s) F.eZ [.ro (cFd fr to),.ro [.v (.string s)],.ro [.v (.string s)]] rfl l hk.1 (fun x hx=>sel1 x fr to s (ho x hx) (hsn x hx));refine fn0 Cd.i_SelectBetween_k fun X=>?_
  repeat' first|simp -dsimp only[go_sem,cC,cFd,List.replicate_succ,List.replicate_zero,List.flatten_cons,List.flatten_nil,List.cons_append,List.nil_append,List.set_cons_zero,List.set_cons_succ,List.length_cons,List.length_nil,List.length_set]|apply Br.mk<;>intro h<;>try simp -dsimp only[h]|refine aA.c (by first|exact CC) ?_|refine aC ?_|fail
  refine aA.own (vE l hk.2 hk.1) rfl ?_;simp -dsimp only[go_sem,cC,cFd,List.replicate_succ,List.replicate_zero,List.flatten_cons,List.flatten_nil,List.cons_append,List.nil_append,List.set_cons_zero,List.set_cons_succ,List.length_cons,List.length_nil,List.length_set,List.flatMap_cons,List.flatMap_nil,bC,bO,bB,List.getD_cons_zero,List.append_nil,List.mem_singleton,List.mem_cons,List.not_mem_nil,or_false,false_or,Vs.Name.t.injEq];refine⟨rfl,aA.borL hd2 rfl ?_⟩;simp -dsimp only[go_sem,cC,cFd,List.replicate_succ,List.replicate_zero,List.flatten_cons,List.flatten_nil,List.cons_append,List.nil_append,List.set_cons_zero,List.set_cons_succ,List.length_cons,List.length_nil,List.length_set,List.flatMap_cons,List.flatMap_nil,bC,bO,bB,List.getD_cons_zero,List.append_nil,List.mem_singleton,List.mem_cons,List.not_mem_nil,or_false,false_or,Vs.Name.t.injEq];have hr:=aEw (flt (iI fr to s) l) (l.length-(flt (iI fr to s) l).length);have hlen:(flt (iI fr to s) l).length≤l.length:=vN ..
  simp -dsimp only[go_sem,List.getElem?_cons_zero,List.drop_zero,aH,List.length_append,hr]
  first|exact⟨_,_,rfl,rfl⟩
 ·have e0:(gF fr to s l != 0)=true:=by simp[h0]
  rw[show iZ fr to s l=.v (.slice none 0 0) by simp[iZ,h0]];generalize gF fr to s l=c at *
  refine fn0 Cd.i_SelectBetween_k fun X=>?_
  repeat' first|simp -dsimp only[go_sem,cC,cFd,List.replicate_succ,List.replicate_zero,List.flatten_cons,List.flatten_nil,List.cons_append,List.nil_append,List.set_cons_zero,List.set_cons_succ,List.length_cons,List.length_nil,List.length_set,e0]|apply Br.mk<;>intro h<;>try simp -dsimp only[h]|refine aA.c (by first|exact CC) ?_|refine aC ?_|fail
  all_goals first|exact⟨_,_,rfl,rfl⟩
theorem uC (l:List (List Int)) (fr to:Int) (s:ByteArray) (hk:bA l) (hz:s.size≤1048576):Fz F.jW [.sl 1 (E cC l),.agg (cFd fr to),.v (.string s)] (.tup [iZ fr to s l,.v (.int .i64 (gF fr to s l))]):=by
 have SB:=aCK l fr to s hk hz;have hv:iZ fr to s l=.sl 1 (E cC (flt (iI fr to s) l))∨iZ fr to s l=.v (.slice none 0 0):=by unfold iZ;split<;>simp
 generalize gF fr to s l=c at *
 rcases hv with hv|hv<;>rw[hv] at SB⊢
 all_goals
  refine fn0 Cd.i_SelectEqual_k fun X=>?_
  repeat' first|simp -dsimp only[go_sem,cC,cFd,List.replicate_succ,List.replicate_zero,List.flatten_cons,List.flatten_nil,List.cons_append,List.nil_append,List.set_cons_zero,List.set_cons_succ,List.length_cons,List.length_nil,List.length_set]|apply Br.mk<;>intro h<;>try simp -dsimp only[h]|refine aA.c (by first|exact SB) ?_|refine aC ?_|fail
  all_goals first|exact⟨_,_,rfl,rfl⟩
end
section
variable [Vs.Envs]
attribute [local irreducible] Vs.Fn pun cmT flt zR cZ aW dB dC l03 chB rk cd3 chI stp aZ
def cfC (x:Spc) (l:List (List Int)):Int:=if aS l then(if inB (aT l) 1 20&&lN x (aT l) then(if dR x.text then 0 else gF x.w0 x.w1 x.text l) else 2) else 1
def cfL (x:Spc) (l:List (List Int)):List (List Int):=if dR x.text then l else flt (iI x.w0 x.w1 x.text) l
def cfV (x:Spc) (l:List (List Int)):AV:=if cfC x l=0 then .sl 1 (E cC (cfL x l)) else .v (.slice none 0 0)
attribute [local go_sem] cFd List.replicate_succ List.replicate_zero List.flatten_cons List.flatten_nil List.cons_append List.nil_append List.set_cons_zero List.set_cons_succ List.length_cons List.length_nil List.length_set in
theorem aJK (x:Spc) (l:List (List Int)) (hk:bA l) (hz:x.text.size≤1048576):Fz F.rR [.agg (cP x),.sl 1 (E cC l)] (.tup [cfV x l,.v (.int .i64 (cfC x l))]):=by
 have VD:=lZ l hk.2 hk.1;have DC:=iF l;have VS:=mY x (aT l) hz;have SE:=uC l x.w0 x.w1 x.text hk hz;cases hd:aS l
 ·rw[hd] at VD;have hc:cfC x l=1:=by simp[cfC,hd]
  rw[show cfV x l=.v (.slice none 0 0) by simp[cfV,hc],hc];refine fn0 Cd.i_cardsFor_k fun X=>?_
  repeat' first|simp -dsimp only[go_sem,cC,cP]|apply Br.mk<;>intro h<;>try simp -dsimp only[h]|refine aA.c (by first|exact VD) ?_|refine aC ?_|fail
  all_goals first|exact⟨_,_,rfl,rfl⟩
 rw[hd] at VD;cases hv:(inB (aT l) 1 20&&lN x (aT l))
 ·rw[hv] at VS;have hc:cfC x l=2:=by simp only[cfC,hd,hv];rfl
  rw[show cfV x l=.v (.slice none 0 0) by simp[cfV,hc],hc];refine fn0 Cd.i_cardsFor_k fun X=>?_
  repeat' first|simp -dsimp only[go_sem,cC,cP]|apply Br.mk<;>intro h<;>try simp -dsimp only[h]|refine aA.c (by first|exact VD|exact DC|exact VS) ?_|refine aC ?_|fail
  all_goals first|exact⟨_,_,rfl,rfl⟩
 rw[hv] at VS;cases hn:dR x.text
 ·have hc:cfC x l=gF x.w0 x.w1 x.text l:=by simp only[cfC,hd,hv,hn];rfl
  have hV:cfV x l=iZ x.w0 x.w1 x.text l:=by unfold cfV iZ cfL;rw[hc,hn];rfl
  have hv2:iZ x.w0 x.w1 x.text l=.sl 1 (E cC (flt (iI x.w0 x.w1 x.text) l))∨iZ x.w0 x.w1 x.text l=.v (.slice none 0 0):=by unfold iZ;split<;>simp
  rw[hc,hV];unfold dR at hn;rcases hv2 with hv2|hv2<;>rw[hv2] at SE⊢
  all_goals
   refine fn0 Cd.i_cardsFor_k fun X=>?_
   repeat' first|simp -dsimp only[go_sem,cC,cP,hn]|apply Br.mk<;>intro h<;>try simp -dsimp only[h]|refine aA.c (by first|exact VD|exact DC|exact VS|exact SE) ?_|refine aC ?_|fail
   all_goals first|exact⟨_,_,rfl,rfl⟩
 ·have hc:cfC x l=0:=by simp only[cfC,hd,hv,hn];rfl
  have hV:cfV x l=.sl 1 (E cC l):=by unfold cfV cfL;rw[hc,hn];rfl
  rw[hc,hV];unfold dR at hn;refine fn0 Cd.i_cardsFor_k fun X=>?_
  repeat' first|simp -dsimp only[go_sem,cC,cP,hn]|apply Br.mk<;>intro h<;>try simp -dsimp only[h]|refine aA.c (by first|exact VD|exact DC|exact VS) ?_|refine aC ?_|fail
  refine aA.own (vE l hk.2 hk.1) rfl ?_;simp -dsimp only[go_sem,cC,cP,List.flatMap_cons,List.flatMap_nil,bC,bO,bB,List.getD_cons_zero,List.append_nil,List.mem_singleton,List.mem_cons,List.not_mem_nil,or_false,false_or,Vs.Name.t.injEq];have htk:(E cC l).take l.length=E cC l:=List.take_of_length_le (by rw[aH];exact Nat.le_refl _)
  first|exact⟨_,_,rfl,rfl⟩|(simp only[htk];exact⟨_,_,rfl,rfl⟩)|(simp[htk];done)
end
section
variable [Vs.Envs]
attribute [local irreducible] Vs.Fn pun cmT zR cZ aW dB dC l03 chB rk cd3 chI stp aZ
theorem aEe {x:Spc}{l:List (List Int)}:∀c,c∈cfL x l→c∈l:=by
 intro c hc;unfold cfL at hc;split at hc
 ·exact hc
 ·exact(List.mem_filter.1 hc).1
theorem aBL (x:Spc) (l:List (List Int)):(cfL x l).length≤l.length:=by
 unfold cfL;split
 ·exact Nat.le_refl _
 ·exact vN ..
theorem aDS {l:List (List Int)}{fr to:Int} (hd:aS l=true) (hn:rF fr to (aT l)=true):∀c,c∈l→okP fr to c:=by
 intro c hc;unfold rF at hn;rw[Bool.and_eq_true] at hn;obtain⟨h0,h1,h2,h3⟩:=dW hd hn.1 c hc;have hw:=hn.2;rw[show W (to-fr)=to-fr from aR (by omega) (by omega)] at hw;simp only[aS,Bool.and_eq_true,List.all_eq_true,decide_eq_true_eq] at hd;obtain⟨hcb,hcl⟩:=hd.1 c hc;simp only[gM,inB,Bool.and_eq_true,List.all_eq_true,decide_eq_true_eq] at hcb;exact⟨h0,h1,h2,by simpa using hw,h3,fun y hy=>hcb.1 y hy⟩
theorem zQ {fr to:Int}{l:List (List Int)} (ho:∀c,c∈l→okF fr to c) (hl:l.length≤40):∀c,c∈bQ fr to l→c∈l:=by
 intro c hc;obtain⟨i,hi,rfl⟩:=List.mem_map.1 hc;exact mU (aDR ho hl i hi)
theorem wG (fr to:Int) (l:List (List Int)):(bQ fr to l).length=l.length:=by unfold bQ;rw[List.length_map,wT]
def evC (x:Spc) (l:List (List Int)):Int:=if cfC x l=0 then(if bI x.g0 x.g1 (cfL x l) then(if iX x.g0 x.g1 x.s0 x.s1 (bQ x.g0 x.g1 (cfL x l)) then 0 else 8) else 8) else cfC x l
def evV (x:Spc) (l:List (List Int)):AV:=if cfC x l=0 then(if bI x.g0 x.g1 (cfL x l) then nJ x.g0 x.g1 x.s0 x.s1 (bQ x.g0 x.g1 (cfL x l)) else .v (.slice none 0 0)) else .v (.slice none 0 0)
theorem aJI {x:Spc}{l:List (List Int)} (h:cfC x l=0):aS l=true∧dJ x.g0 x.g1 (aT l)=true∧rF x.s0 x.s1 (aT l)=true:=by
 unfold cfC at h;cases hd:aS l
 ·simp[hd] at h
 ·cases hv:(inB (aT l) 1 20&&lN x (aT l))
  ·rw[hd,hv] at h;simp at h
  ·rw[Bool.and_eq_true] at hv;have h2:=hv.2;unfold lN at h2;rw[Bool.and_eq_true,Bool.and_eq_true] at h2;exact⟨rfl,h2.1,h2.2.1⟩
attribute [local go_sem] cFd List.replicate_succ List.replicate_zero List.flatten_cons List.flatten_nil List.cons_append List.nil_append List.set_cons_zero List.set_cons_succ List.length_cons List.length_nil List.length_set in
theorem aCQ (x:Spc) (l:List (List Int)) (hk:bA l) (hz:x.text.size≤1048576):Fz F.rU [.agg (cP x),.sl 1 (E cC l)] (.tup [evV x l,.v (.int .i64 (evC x l))]):=by
 have CF:=aJK x l hk hz;by_cases h0:cfC x l=0
 ·obtain⟨hd,hf,hn⟩:=aJI h0;have h40:=iE hd;have hml:=aEe (x:=x) (l:=l);have hll:=aBL x l;have hof:∀c,c∈cfL x l→okF x.g0 x.g1 c:=fun c hc=>dW hd hf c (hml c hc);have hop:∀c,c∈cfL x l→okP x.s0 x.s1 c:=fun c hc=>aDS hd hn c (hml c hc);have HF:=oI (cfL x l) x.g0 x.g1 hof (by omega);have SB:=wH (cfL x l) x.g0 x.g1 hof (by omega);have hsm:=zQ hof (by omega:(cfL x l).length≤40);have hsl:=wG x.g0 x.g1 (cfL x l);have TO:=aEl (bQ x.g0 x.g1 (cfL x l)) x.g0 x.g1 x.s0 x.s1 (fun c hc=>hof c (hsm c hc)) (fun c hc=>hop c (hsm c hc)) (by omega);rw[show cfV x l=.sl 1 (E cC (cfL x l)) by simp[cfV,h0],h0] at CF;cases ha:bI x.g0 x.g1 (cfL x l)
  ·rw[ha] at HF;rw[show evC x l=8 by simp[evC,h0,ha],show evV x l=.v (.slice none 0 0) by simp[evV,h0,ha]];refine fn0 Cd.i_EvalSpec_k fun X=>?_
   repeat' first|simp -dsimp only[go_sem,cC,cP]|apply Br.mk<;>intro h<;>try simp -dsimp only[h]|refine aA.c (by first|exact CF|exact HF) ?_|refine aC ?_|fail
   all_goals first|exact⟨_,_,rfl,rfl⟩
  ·rw[ha] at HF;rw[show evC x l=(if iX x.g0 x.g1 x.s0 x.s1 (bQ x.g0 x.g1 (cfL x l)) then 0 else 8) by simp[evC,h0,ha],show evV x l=nJ x.g0 x.g1 x.s0 x.s1 (bQ x.g0 x.g1 (cfL x l)) by simp[evV,h0,ha]];generalize(if iX x.g0 x.g1 x.s0 x.s1 (bQ x.g0 x.g1 (cfL x l)) then(0:Int) else 8)=c at *
   have hv2:nJ x.g0 x.g1 x.s0 x.s1 (bQ x.g0 x.g1 (cfL x l))=.sl 2 (E cTt (kU x.g0 x.g1 x.s0 x.s1 (bQ x.g0 x.g1 (cfL x l))))∨nJ x.g0 x.g1 x.s0 x.s1 (bQ x.g0 x.g1 (cfL x l))=.v (.slice none 0 0):=by unfold nJ;split<;>simp
   rcases hv2 with hv2|hv2<;>rw[hv2] at TO⊢
   all_goals
    refine fn0 Cd.i_EvalSpec_k fun X=>?_
    repeat' first|simp -dsimp only[go_sem,cC,cP]|apply Br.mk<;>intro h<;>try simp -dsimp only[h]|refine aA.c (by first|exact CF|exact HF|exact SB|exact TO) ?_|refine aC ?_|fail
    all_goals first|exact⟨_,_,rfl,rfl⟩
 ·have e0:(cfC x l != 0)=true:=by simp[h0]
  rw[show evC x l=cfC x l by simp[evC,h0],show evV x l=.v (.slice none 0 0) by simp[evV,h0]];rw[show cfV x l=.v (.slice none 0 0) by simp[cfV,h0]] at CF;generalize cfC x l=c at *
  refine fn0 Cd.i_EvalSpec_k fun X=>?_
  repeat' first|simp -dsimp only[go_sem,cC,cP,e0]|apply Br.mk<;>intro h<;>try simp -dsimp only[h]|refine aA.c (by first|exact CF) ?_|refine aC ?_|fail
  all_goals first|exact⟨_,_,rfl,rfl⟩
end
section
variable [Vs.Envs]
attribute [local irreducible] Vs.Fn cZ aW dB dC l03 chB rk cd3 chI stp aZ
attribute [local go_sem] cFd aH List.replicate_succ List.replicate_zero List.flatten_cons List.flatten_nil List.cons_append List.nil_append List.set_cons_zero List.set_cons_succ List.length_cons List.length_nil List.length_set in
theorem aBC (l:List (List Int)) (hk:bA l):Fz F.l9 [.sl 1 (E cC l)] (.sl 1 (E cC l)):=by
 refine fn0 Cd.s_l02Copy_k fun X=>?_
 repeat' first|simp -dsimp only[go_sem,cC]|apply Br.mk<;>intro h<;>try simp -dsimp only[h]|refine aC ?_|fail
 refine aN.at dM (X:={zz:Nat×(Unit) // zz.1≤l.length∧True}) (fun zz=>[(3,.loc (.t 3 0) 0 zz.1.1),(4,.v (.int .i64 zz.1.1))]) (fun zz=>[(.t 3 0,.arr 1 (E cC (l.take zz.1.1)) false)]) (fun zz=>l.length-zz.1.1) ⟨(0,()),by omega,trivial⟩ ?_ ?_
 ·simp[Vs.LeL,Vs.look,Vs.aB,Vs.aP,Vs.aK,Vs.hset,Vs.aL,Vs.E]
 ·rintro⟨⟨i,_⟩,hi,hg⟩;dsimp only at hi hg;simp -dsimp only[go_sem,cC];refine Br.mk (fun hc=>?_) fun hc=>?_
  ·have hlt:i<l.length:=Dq;have hw:=aG hlt (hk.1);have hm:(E cC l).getD i []=[.sl 1 (E cI l[i])]:=aX hlt;have NC:=wX l[i] (hk.2 _ (List.getElem_mem hlt));have hap:E cC (l.take i)++[[.sl 1 (E cI l[i])]]=E cC (l.take (i+1)):=by rw[bL hlt,aY];rfl
   have hal:(E cC (l.take i)).length=i:=by rw[aH];simp;omega
   have hl:=hk.1
   repeat' first|simp -dsimp only[go_sem,hm,hw,hap,hal,cC]|apply Br.mk<;>intro h<;>try simp -dsimp only[h]|refine aA.c (by first|exact NC) ?_|refine aC ?_|fail
   all_goals first|omega|(exact nx (i+1,()) trivial (h2:=by simp[Vs.LeL,Vs.look,Vs.aB,Vs.aP,Vs.aK,Vs.hset,Vs.aL,hap]))
  ·have hge:i=l.length:=by
    have:¬i<l.length:=Dq;omega
   subst hge;simp -dsimp only[go_sem,cC]
   have htk:(E cC (l.take l.length)).take l.length=E cC l:=by
    rw[List.take_of_length_le (Nat.le_refl l.length)];exact List.take_of_length_le (by rw[aH];exact Nat.le_refl _)
   first|exact⟨⟨_,_,rfl,rfl⟩,fun h=>h rfl⟩|(rw[htk];exact⟨⟨_,_,rfl,rfl⟩,fun h=>h rfl⟩)|(simp[htk];done)
def lcC (x:Spc) (l:List (List Int)):Int:=if aS l then(if lN x (aT l) then 0 else 2) else 1
theorem aKK (x:Spc) (l:List (List Int)) (hk:bA l) (hz:x.text.size≤1048576):Fz F.tK [.ro (cP x),.sl 1 (E cC l)] (.v (.int .i64 (lcC x l))):=by
 refine fn0 Cd.s_l16Code_k fun X=>?_
 repeat' first|simp -dsimp only[go_sem,cP]|apply Br.mk<;>intro h<;>try simp -dsimp only[h]|refine aA.c (by first|exact dG l hk.2 hk.1|exact dO l|exact aIZ x _ hz) ?_|refine aC ?_|fail
 all_goals(first|(refine aO ?_;simp_all [lcC];done)|(simp_all [lcC];done))
end
section
variable [Vs.Envs]
attribute [local irreducible] Vs.Fn cZ aW dB dC l03 chB rk cd3 chI stp aZ stb oW mgK mgI skp iW stF bG kH
theorem aDx {l:List (List Int)}{i:Nat} (h:i<l.length):(E cC l).getD i []=[.sl 1 (E cI (l.getD i []))]:=by rw[aX h];simp[cC,List.getD,h]
theorem aE0 {fr to:Int}{l:List (List Int)}{i:Nat} (h:i<l.length):(E cSt (bS fr to l)).getD i []=[.v (.string (txt (fH fr to (l.getD i []))))]:=by
 rw[aX (by simpa[bS] using h)];simp[cSt,bS,List.getD,h]
theorem aBB {l:List (List Int)}{i:Nat} (h:i<l.length):l.getD i []∈l:=by rw[show l.getD i []=l[i] by simp[List.getD,h]];exact List.getElem_mem h
theorem aGi (G:Int→List Int) (p:List Int) (x:Int):E cC (p.map G)++[[.sl 1 (E cI (G x))]]=E cC ((p++[x]).map G):=by rw[List.map_append,aY];rfl
attribute [local go_sem] cFd cD List.replicate_succ List.replicate_zero List.flatten_cons List.flatten_nil List.cons_append List.nil_append List.set_cons_zero List.set_cons_succ List.length_cons List.length_nil List.length_set aH in
theorem aCc (a b:List (List Int)) (fr to:Int) (ha:bA a) (hb:bA b) (oa:∀c,c∈a→okF fr to c) (ob:∀c,c∈b→okF fr to c) (ca:bI fr to a=true) (cb:bI fr to b=true) (h40:a.length+b.length≤40) :
  Fz F.qW [.sl 1 (E cC a),.sl 1 (E cC b),.sl 1 (E cSt (bS fr to a)),.sl 1 (E cSt (bS fr to b))] (.sl 1 (E cC ((mgF (cfO fr to (a++b)) a.length b.length).map fun i=>(a++b).getD i.toNat []))):=by
 have hkl:=uA fr to a;have hkm:=uA fr to b
 have hcmp:∀i k:Nat,i<a.length→k<b.length→Fz F.fM [.v (.string (txt (fH fr to (b.getD k [])))),.v (.string (txt (fH fr to (a.getD i []))))] (.v (.int .i64 (cfO fr to (a++b) ((a.length+k:Nat):Int) (i:Int)))):=by
  intro i k hi hk
  have e:cfO fr to (a++b) ((a.length+k:Nat):Int) (i:Int)=jC (fH fr to (b.getD k [])) (fH fr to (a.getD i [])):=by
   unfold cfO;rw[Int.toNat_natCast,Int.toNat_natCast,aG8 hi,aG7];rfl
  rw[e];have m1:=aBB hi;have m2:=aBB hk;exact vI _ _ (aAC (ob _ m2)) ((lC (ob _ m2)).trans (lC (oa _ m1)).symm) (List.all_eq_true.1 cb _ m2) (List.all_eq_true.1 ca _ m1)
 have gA:∀i:Nat,i<a.length→(fun i:Int=>(a++b).getD i.toNat []) (i:Int)=a.getD i []:=fun i hi=>by show(a++b).getD (i:Int).toNat []=_;rw[Int.toNat_natCast,aG8 hi]
 have gB:∀j:Nat,(fun i:Int=>(a++b).getD i.toNat []) ((a.length+j:Nat):Int)=b.getD j []:=fun j=>by show(a++b).getD ((a.length+j:Nat):Int).toNat []=_;rw[Int.toNat_natCast,aG7]
 have hdr:∀k,k≤b.length→(rng (a.length+k) (b.length-k)).map (fun i=>(a++b).getD i.toNat [])=b.drop k:=by
  intro k hk;apply List.ext_getElem
  ·simp[xZ]
  ·intro j h1 h2;simp only[List.length_map,xZ] at h1;simp only[rng,List.getElem_map,List.getElem_range',List.getElem_drop,Nat.one_mul];have g2:=gB (k+j);simp only at g2;rw[show a.length+k+j=a.length+(k+j) by omega,g2];simp[List.getD,(by omega:k+j<b.length)]
 generalize(fun i:Int=>(a++b).getD i.toNat [])=G at *
 generalize cfO fr to (a++b)=cf at *
 refine fn0 Cd.s_l09Merge_k fun X=>?_
 repeat' first|simp -dsimp only[go_sem,cC,hkl,hkm]|apply Br.mk<;>intro h<;>try simp -dsimp only[h]|refine aC ?_|fail
 refine aN.at dM (X:={zz:Nat×(Unit) // zz.1≤a.length∧True}) (fun zz=>[(9,.loc (.t 9 0) 0 (mgI cf a.length b.length zz.1.1).length),(10,.v (.int .i64 (mgK cf a.length b.length zz.1.1:Nat))),(11,.v (.int .i64 zz.1.1))]) (fun zz=>[(.t 9 0,.arr 1 (E cC ((mgI cf a.length b.length zz.1.1).map G)) false)]) (fun zz=>a.length-zz.1.1) ⟨(0,()),by omega,trivial⟩ ?_ ?_
 ·simp[Vs.LeL,Vs.look,Vs.aB,Vs.aP,Vs.aK,Vs.hset,Vs.aL,Vs.E,mgI,mgK]
 ·rintro⟨⟨i,_⟩,hi,hg⟩;dsimp only at hi hg;simp -dsimp only[go_sem,cC,hkl,hkm];refine Br.mk (fun hc=>?_) fun hc=>?_
  ·have hlt:i<a.length:=Dq;have hw:=aG hlt (by omega);have hki:=vF cf a.length b.length i;have hki1:=vF cf a.length b.length (i+1);have hkg:=aDU cf a.length b.length i;have hli:=aBz cf a.length b.length i;have hli1:=aBz cf a.length b.length (i+1);have hs0:skp cf a.length i (b.length-mgK cf a.length b.length i) (mgK cf a.length b.length i)=mgK cf a.length b.length (i+1):=by rw[mgK]
   have hmI:mgI cf a.length b.length (i+1)=mgI cf a.length b.length i++rng (a.length+mgK cf a.length b.length i) (mgK cf a.length b.length (i+1)-mgK cf a.length b.length i)++[(i:Int)]:=by rw[mgI]
   have hga:=gA i hlt;have xa:=aE0 (fr:=fr) (to:=to) hlt;have xc:=aDx hlt;have hc20:(a.getD i []).length≤20:=(oa _ (aBB hlt)).2.2.2;have NA:=wX (a.getD i []) (by omega);generalize hK:mgK cf a.length b.length i=k0 at *
   generalize hK1:mgK cf a.length b.length (i+1)=k1 at *
   generalize hO:mgI cf a.length b.length i=o at *
   generalize hO1:mgI cf a.length b.length (i+1)=o1 at *
   simp -dsimp only[go_sem,hw,cC,hkl,hkm];refine aN.at dM (X:={k:Nat // k0≤k∧k≤b.length∧skp cf a.length i (b.length-k) k=k1}) (fun k=>[(9,.loc (.t 9 0) 0 (o.length+(k.1-k0))),(10,.v (.int .i64 (k.1:Nat))),(16,.junk)]) (fun k=>[(.t 9 0,.arr 1 (E cC ((o++rng (a.length+k0) (k.1-k0)).map G)) false)]) (fun k=>b.length-k.1) ⟨k0,Nat.le_refl _,hki,hs0⟩ ?_ ?_
   ·simp[Vs.LeL,Vs.look,Vs.aB,Vs.aP,Vs.aK,Vs.hset,Vs.aL,Nat.sub_self,aIy]
   ·rintro⟨k,hk0,hkb,hks⟩
    try dsimp only at hk0 hkb hks
    by_cases hlk:k<b.length
    ·have e1:decide ((k:Int)<(b.length:Int))=true:=by simp;omega
     have w1:IntKind.i64.wrap ((k:Int)+1)=((k+1:Nat):Int):=by rw[aR (by omega) (by omega)];omega
     rw[aIo hlk] at hks;have yb:=aE0 (fr:=fr) (to:=to) hlk;have yc:=aDx hlk;have HC:=hcmp i k hlt hlk;have hgb:=gB k;have hb20:(b.getD k []).length≤20:=(ob _ (aBB hlk)).2.2.2;have NB:=wX (b.getD k []) (by omega);by_cases hneg:cf ((a.length+k:Nat):Int) (i:Int)<0
     ·have e2:decide (cf ((a.length+k:Nat):Int) (i:Int)<0)=true:=decide_eq_true hneg;rw[if_pos hneg] at hks
      have hap:E cC ((o++rng (a.length+k0) (k-k0)).map G)++[[.sl 1 (E cI (b.getD k []))]]=E cC ((o++rng (a.length+k0) (k+1-k0)).map G):=by
       rw[show k+1-k0=(k-k0)+1 by omega,aEy,show a.length+k0+(k-k0)=a.length+k by omega,←List.append_assoc,←aGi,hgb]
      have hal:(E cC ((o++rng (a.length+k0) (k-k0)).map G)).length=o.length+(k-k0):=by rw[aH];simp[xZ]
      have hsum:o.length+(k-k0)+1=o.length+(k+1-k0):=by omega
      repeat' first|simp -dsimp only[go_sem,e1,e2,w1,yb,yc,xa,xc,hap,hal,cC,hkl,hkm]|apply Br.mk<;>intro h<;>try simp -dsimp only[h]|refine aA.c (by first|exact HC|exact NB) ?_|refine aC ?_|fail
      all_goals first|omega|(refine⟨⟨k+1,by omega,by omega,hks⟩,?_,by simp only;omega⟩;simp[Vs.LeL,Vs.look,Vs.aB,Vs.aP,Vs.aK,Vs.hset,Vs.aL,hsum])
     ·have e2:decide (cf ((a.length+k:Nat):Int) (i:Int)<0)=false:=decide_eq_false hneg;rw[if_neg hneg] at hks;subst hks
      have hap:E cC ((o++rng (a.length+k0) (k-k0)).map G)++[[.sl 1 (E cI (a.getD i []))]]=E cC (o1.map G):=by
       rw[hmI,←aGi,hga]
      have hal:(E cC ((o++rng (a.length+k0) (k-k0)).map G)).length=o.length+(k-k0):=by rw[aH];simp[xZ]
      have hsum:o.length+(k-k0)+1=o1.length:=by omega
      repeat' first|simp -dsimp only[go_sem,e1,e2,w1,yb,yc,xa,xc,hap,hal,hw,hsum,cC,hkl,hkm]|apply Br.mk<;>intro h<;>try simp -dsimp only[h]|refine aA.c (by first|exact HC|exact NA) ?_|refine And.intro ?_ (fun h=>absurd rfl h)|refine And.intro ?_ (fun h=>absurd rfl h)|refine aC ?_|fail
      all_goals first|omega|(exact⟨⟨(i+1,()),by omega,trivial⟩,by simp[Vs.LeL,Vs.look,Vs.aB,Vs.aP,Vs.aK,Vs.hset,Vs.aL,hsum,hO1,hK1],by simp only;omega⟩)
    ·obtain rfl:k=b.length:=by omega
     have e1:decide ((b.length:Int)<(b.length:Int))=false:=by simp
     rw[aIn (by omega)] at hks;subst hks
     have hap:E cC ((o++rng (a.length+k0) (b.length-k0)).map G)++[[.sl 1 (E cI (a.getD i []))]]=E cC (o1.map G):=by
      rw[hmI,←aGi,hga]
     have hal:(E cC ((o++rng (a.length+k0) (b.length-k0)).map G)).length=o.length+(b.length-k0):=by rw[aH];simp[xZ]
     have hsum:o.length+(b.length-k0)+1=o1.length:=by omega
     repeat' first|simp -dsimp only[go_sem,e1,xa,xc,hap,hal,hw,hsum,cC,hkl,hkm]|apply Br.mk<;>intro h<;>try simp -dsimp only[h]|refine aA.c (by first|exact NA) ?_|refine And.intro ?_ (fun h=>absurd rfl h)|refine And.intro ?_ (fun h=>absurd rfl h)|refine aC ?_|fail
     all_goals first|omega|(exact⟨⟨(i+1,()),by omega,trivial⟩,by simp[Vs.LeL,Vs.look,Vs.aB,Vs.aP,Vs.aK,Vs.hset,Vs.aL,hsum,hO1,hK1],by simp only;omega⟩)
  ·have hge:i=a.length:=by
    have:¬i<a.length:=Dq;omega
   subst hge;simp -dsimp only[go_sem,cC,hkl,hkm];have hka:=vF cf a.length b.length a.length;have hli:=aBz cf a.length b.length a.length;have hd2:=hdr _ hka
   have hfin:E cC ((mgI cf a.length b.length a.length).map G)++E cC (b.drop (mgK cf a.length b.length a.length))=E cC ((mgF cf a.length b.length).map G):=by
    rw[←hd2,←aY,←List.map_append];rfl
   have hfl:=aKE cf a.length b.length;have hdE:(E cC b).drop (mgK cf a.length b.length a.length)=E cC (b.drop (mgK cf a.length b.length a.length)):=by simp[E,List.map_drop]
   have hdl:(b.drop (mgK cf a.length b.length a.length)).length=b.length-mgK cf a.length b.length a.length:=by simp
   have CP:=aBC (b.drop (mgK cf a.length b.length a.length)) ⟨by omega,fun c hc=>by have:=(ob c (List.mem_of_mem_drop hc)).2.2.2;omega⟩;have hal:(E cC ((mgI cf a.length b.length a.length).map G)).length=(mgI cf a.length b.length a.length).length:=by rw[aH];simp
   have hsum:(mgI cf a.length b.length a.length).length+(b.length-mgK cf a.length b.length a.length)=a.length+b.length:=by omega
   have htk:(E cC ((mgF cf a.length b.length).map G)).take (a.length+b.length)=E cC ((mgF cf a.length b.length).map G):=List.take_of_length_le (by rw[aH,List.length_map];omega);generalize mgF cf a.length b.length=mf at *
   generalize mgK cf a.length b.length a.length=k at *
   generalize mgI cf a.length b.length a.length=o at *
   refine⟨?_,fun h=>h rfl⟩
   repeat' first|simp -dsimp only[go_sem,hdE,hdl,hal,hfin,hsum,htk,cC,hkl,hkm]|apply Br.mk<;>intro h<;>try simp -dsimp only[h]|refine aA.c (by first|exact CP) ?_|refine aC ?_|fail
   all_goals first|omega|exact⟨_,_,rfl,rfl⟩
end
end Go.Proofs.YthbnjmgjhonfbaaGreat
