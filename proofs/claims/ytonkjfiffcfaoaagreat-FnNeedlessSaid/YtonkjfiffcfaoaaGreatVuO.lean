/- Regions whose order is drawn, by an invariant on exactly what is done; a contract out of pieces. -/
import Derived.Test.YtonkjfiffcfaoaaGreatVuM
set_option linter.all false
set_option maxHeartbeats 8000000
namespace Go.Vs
section
variable {P:Program}{I:Envs}{C1:Ctx}{σ τ:St}{a:Act}{w:World}{S:Nat→Prop}
end
section
section
variable [Envs]
variable {P:Program}{nt:Nat}{Q:Exit→Act→World→Prop}
theorem ordJ {ops:Array Oper}{aops:List aJ}{n1:Nat}{deps:List (Nat×Nat)}{OT:List (List Nat)} (hchk:chkI ops n1 deps OT=true) (hn1:n1≤ops.size) (Inv:(Nat→Prop)→Act→World→Prop)
  (hstep:∀(i:Nat) (D:Nat→Prop) (a:Act) (w:World) (rest:List aJ),i<n1→¬D i→(∀k,(i,k)∈deps→D k)→Inv D a w→(∀a' w',Inv (fun j=>D j∨j=i) a' w'→RgL P nt rest Q a' w')→RgL P nt (aops.getD i default::rest) Q a w)
  (hinv:∀(D D':Nat→Prop) a w,(∀j,D' j↔D j)→Inv D a w→Inv D' a w)
  (hT:∀a w,Inv (fun j=>j<n1) a w→∀L,L∈OT→RgL P nt (L.map fun i=>aops.getD i default) Q a w) :
  ∀ (c:Nat) (listed:Array Bool) (a:Act) (w:World) (L:List Nat),listed.size=ops.size→(∀j,n1≤j→listed.getD j false=false)→(∀j,listed.getD j false=true→nC ops j (fun k=>listed.getD k false)=true)→
   ((List.range n1).filter fun j=>!listed.getD j false).length=c→L∈vP ops (ops.size-n1+c) listed→Inv (fun j=>listed.getD j false=true) a w→RgL P nt (L.map fun i=>aops.getD i default) Q a w:=by
 unfold chkI at hchk;simp only[Bool.and_eq_true,List.all_eq_true,List.mem_range,Bool.or_eq_true,decide_eq_true_eq] at hchk;obtain⟨⟨⟨hback,hanc⟩,hdeps⟩,hOT⟩:=hchk;have hOT:vP ops (ops.size-n1) (aDh ops.size n1)=OT:=by simpa using hOT
 intro c
 induction c with
 | zero =>
  intro listed a w L hsz hhi hcl hc hL hI
  have hall:∀j,j<n1→listed.getD j false=true:=fun j hj=>by
   have h0:=List.length_eq_zero_iff.1 hc;have:=List.filter_eq_nil_iff.1 h0 j (List.mem_range.2 hj);simpa using this
  have e:listed=aDh ops.size n1:=by
   refine Array.ext (by simp[aDh,hsz]) fun j h1 h2=>?_;have g:listed.getD j false=listed[j]:=by simp[Array.getD,h1]
   have hR:(aDh ops.size n1)[j]=decide (j<n1):=by simp[aDh]
   rw[hR,←g];by_cases hj:j<n1
   ·rw[hall j hj];simp[hj]
   ·rw[hhi j (by omega)];simp[hj]
  rw[e,Nat.add_zero,hOT] at hL
  exact hT a w (hinv _ _ a w (fun j=>⟨fun hj=>hall j hj,fun hj=>by
    rcases Nat.lt_or_ge j n1 with h|h
    · exact h
    · rw[hhi j h] at hj;cases hj⟩) hI) L hL
 | succ c ih =>
  intro listed a w L hsz hhi hcl hc hL hI
  have hun:∃n,n<n1∧listed.getD n false=false:=by
   have hne:((List.range n1).filter fun j=>!listed.getD j false)≠[]:=fun e=>by rw[e] at hc;simp at hc
   obtain⟨x,hx⟩:=List.exists_mem_of_ne_nil _ hne;obtain⟨h1,h2⟩:=List.mem_filter.1 hx;exact⟨x,List.mem_range.1 h1,by simpa using h2⟩
  obtain⟨x,⟨hx1,hx2⟩,hmin⟩:=least _ hun;rw[show ops.size-n1+(c+1)=(ops.size-n1+c)+1 by omega,vP] at hL
  have hgd:∀j,j<ops.size→listed.getD j true=listed.getD j false:=fun j hj=>by
   have:j<listed.size:=by omega
   simp[Array.getD,this]
  have hxr:x∈(List.range ops.size).filter fun i=>!listed.getD i true&&((ops[i]?).map (·.after.all fun e=>!Region.binds .any e||listed.getD e.on false)).getD false:=by
   refine List.mem_filter.2 ⟨List.mem_range.2 (by omega),?_⟩;rw[hgd x (by omega),hx2]
   change (true&&nC ops x (fun k=>listed.getD k false))=true
   rw[Bool.true_and];refine zL (hback x (by omega)) fun k hk=>?_;have hk:k<x:=by simpa using hk
   cases hlk:listed.getD k false
   ·have:=hmin k ⟨by omega,hlk⟩;omega
   ·rfl
  generalize hrs:((List.range ops.size).filter fun i=>!listed.getD i true&&((ops[i]?).map (·.after.all fun e=>!Region.binds .any e||listed.getD e.on false)).getD false)=rs at hL hxr;cases rs with
  |nil=>cases hxr
  | cons y ys =>
   simp only[List.mem_flatMap,List.mem_map] at hL;obtain⟨i,hi,L',hL',rfl⟩:=hL;rw[←hrs] at hi;obtain⟨hi1,hi2⟩:=List.mem_filter.1 hi;have hi1:=List.mem_range.1 hi1;simp only[Bool.and_eq_true] at hi2;obtain⟨hi2,hi3⟩:=hi2;have hi3:nC ops i (fun k=>listed.getD k false)=true:=hi3;rw[hgd i hi1] at hi2;have hi2:listed.getD i false=false:=by simpa using hi2
   have hin:i<n1:=by
    rcases Nat.lt_or_ge i n1 with h|h
    ·exact h
    ·rcases hanc i hi1 with h'|h'
     ·exact h'
     ·have:=ancP hcl ops.size x i (h' x hx1) hi3;rw[hx2] at this;cases this
   have hset:∀j,(listed.setIfInBounds i true).getD j false=if j=i then true else listed.getD j false:=fun j=>by
    by_cases e:j=i
    ·subst e;have:j<listed.size:=by omega
     simp[Array.getD,this]
    ·simp only[e,if_false];rw[Array.getD_eq_getD_getElem?,Array.getD_eq_getD_getElem?,Array.getElem?_setIfInBounds_ne (Ne.symm e)]
   refine hstep i _ a w _ hin (by rw[hi2];decide) (fun k hk=>?_) hI fun a' w' hI'=>?_
   ·have:=hdeps (i,k) hk;exact aHP hi3 (by simpa using this)
   ·refine ih (listed.setIfInBounds i true) a' w' L' (by simpa using hsz) (fun j hj=>?_) (fun j hj=>?_) ?_ hL' (hinv _ _ a' w' (fun j=>?_) hI')
    ·rw[hset j,if_neg (by omega)];exact hhi j hj
    ·have hm:∀k,listed.getD k false=true→(listed.setIfInBounds i true).getD k false=true:=fun k hk=>by
      rw[hset k];split
      ·rfl
      ·exact hk
     rw[hset j] at hj;split at hj
     ·rename_i e;subst e;exact zL hi3 hm
     ·exact zL (hcl j hj) hm
    ·have e:((List.range n1).filter fun j=>!(listed.setIfInBounds i true).getD j false)=((List.range n1).filter fun j=>!listed.getD j false).filter fun j=>j != i:=by
      rw[List.filter_filter];refine List.filter_congr fun j _=>?_;rw[hset j];by_cases e:j=i
      ·simp[e]
      ·simp[e]
     have hmem:i∈(List.range n1).filter fun j=>!listed.getD j false:=List.mem_filter.2 ⟨List.mem_range.2 hin,by rw[hi2];rfl⟩;have:=filter_one (List.nodup_range.filter _) hmem;rw[e];omega
    ·rw[hset j];by_cases e:j=i
     ·simp[e]
     ·simp[e]
end
section
variable [I:Envs]
variable {P:Program}{nt:Nat}{Q:Exit→Act→World→Prop}{a:Act}{w:World}
theorem At.rgJ (hm:P.follows .mixedOrders=true) {n0 n1:Nat}{deps:List (Nat×Nat)}{OT:List (List Nat)}{aops:List aJ}{out:List Nat}{f0:Nat}{fl:List Nat} (hn:aops.length=n0) (hn1:n1≤n0) (Inv:(Nat→Prop)→Act→World→Prop)
  (hstep:∀(i:Nat) (D:Nat→Prop) (a:Act) (w:World) (rest:List aJ),i<n1→¬D i→(∀k,(i,k)∈deps→D k)→Inv D a w→(∀a' w',Inv (fun j=>D j∨j=i) a' w'→RgL P nt rest Q a' w')→RgL P nt (aops.getD i default::rest) Q a w)
  (hinv:∀(D D':Nat→Prop) a w,(∀j,D' j↔D j)→Inv D a w→Inv D' a w)
  (h0:Inv (fun _=>False) a {w with drawn:=w.drawn+1})
  (hL:∀L,L∈OT→∀i,i∈L→i<n0)
  (hT:∀a w,Inv (fun j=>j<n1) a w→∀L,L∈OT→RgL P nt (L.map fun i=>aops.getD i default) Q a w):At P nt (drI P n0 n1 deps OT) (.region aops out (f0::fl)) Q a w:=by
 intro c hc hzc;cases c
 case region id ops draw =>
  simp only[bS,aD.bare] at hc;split at hc
  ·rename_i fl' hdraw;cases ho:aCQ P nt ops ops.toList with
   |none=>rw[ho] at hc;cases hc
   | some l =>
    rw[ho] at hc;simp only[Option.map_some,Option.some.injEq,aD.region.injEq,true_and] at hc;obtain⟨hl,hfl⟩:=hc;subst hl;subst hfl;cases draw with
    |false=>simp at hdraw
    | true =>
     have hd:drI P n0 n1 deps OT nt ops=some (f0::fl):=by simpa using hdraw
     obtain⟨g1,g2⟩:=qK ho;have hlen:ops.size=aops.length:=by simpa using g1
     have hck:chkI ops n1 deps OT=true:=by
      unfold drI at hd;split at hd
      ·cases hd
      ·rename_i hne;simp only[hlen,hn,beq_self_eq_true,Bool.true_and,Bool.not_eq_true',Bool.not_eq_false] at hne;simpa using hne
     refine wp_region_draw fun t=>?_;rw[hm];have hmem:=aF9 ops t
     have hlt:∀i,i∈Region.schedule true ops t→i<aops.length:=fun i hi=>by
      rw[←hlen];exact aII ops ops.size _ _ hmem i hi
     have key:RgL P nt ((Region.schedule true ops t).map fun i=>aops.getD i default) Q a {w with drawn:=w.drawn+1}:=by
      refine ordJ hck (by omega) Inv hstep hinv hT n1 (Array.replicate ops.size false) a _ _ (by simp) (fun j _=>?_) (fun j hj=>?_) ?_ ?_ (hinv _ _ _ _ (fun j=>⟨fun hj=>?_,fun hj=>hj.elim⟩) h0)
      ·simp only[Array.getD_eq_getD_getElem?,Array.getElem?_replicate];split<;>rfl
      ·simp only[Array.getD_eq_getD_getElem?,Array.getElem?_replicate] at hj;split at hj<;>cases hj
      ·rw[List.filter_eq_self.2]
       ·simp
       ·intro j _;simp only[Array.getD_eq_getD_getElem?,Array.getElem?_replicate];split<;>rfl
      ·rw[show ops.size-n1+n1=ops.size by omega];exact hmem
      ·simp only[Array.getD_eq_getD_getElem?,Array.getElem?_replicate] at hj;split at hj<;>cases hj
     refine key ops _ (by simp) fun j ao hj=>?_;generalize Region.schedule true ops t=L at hlt hj;simp only[List.getElem?_map,Option.map_eq_some_iff] at hj;obtain⟨i,hi,rfl⟩:=hj;have hil:i<aops.length:=hlt i (List.mem_of_getElem? hi);obtain⟨o,q1,q2⟩:=g2 i (aops.getD i default) (by simp[hil]);exact⟨i,o,hi,by simpa using q1,q2⟩
  ·cases hc
 all_goals(simp only[bS,aD.bare] at hc;first|(cases hc;done)|(split at hc<;>simp at hc)|(simp at hc))
end
theorem Fn.of_at [Envs] {P:Program}{dr:Nat→Array Oper→Option (List Nat)}{f:FuncId}{fn:Func}{body:Code}{ac:aD}{args:List AV}{r:AV} (hf:P.funcs[f]? = some fn) (hb:fn.body=some body) (hname:fn.name≠"runtime.NumGoroutine") (hc:bS P fn.ntmps dr body=some ac.bare) (hz:zB fn.ntmps dr body=true) (hna:args.length≤fn.ntmps) (hcl:∀x,x∈args→nI x=true)
  (h:∀(C:Ctx) (a:Act) (w:World) (S:Nat→Prop) (ρ:Name→Option Nat) (κ:Name→Nat),C.nt=fn.ntmps→OK C (⟨ini 0 args,[]⟩:St).f a w S ρ κ→At P fn.ntmps dr ac (fun e a' w'=>(e=.ret∨e=.normal)∧dD C (wM P fn.results.toList [] r []) a' w') a w):Fn P f [] args r []:=by
 refine⟨⟨fn,body,hf,hb,hname⟩,fun S w ρ κ vs hok _ hvs hargs=>?_⟩;refine aJA hf hb hc hz hna hok.dom hok.env hvs (fun j hj=>(hargs j hj).closed (hcl _ (by rw[List.getD_eq_getElem?_getD,List.getElem?_eq_getElem hj];exact List.getElem_mem _))) (fun _=>False) fun a hok1=>?_;refine(h _ a w S _ _ rfl hok1).mono (fun e a' w' hq=>?_);obtain⟨he,σ,S1,ρ1,κ1,hK,hok1⟩:=hq;refine⟨he,hok1.defers,?_⟩;obtain⟨x,v,⟨L1,L2,h1,h2⟩,h3,h4⟩:=aDI hok1 (K:=fun x=>∃L1 L2,conv (aB σ.h) 8 [] false x=some (r,L1)∧uO (aB σ.h) [] []=some (([]:List Blk),L2)) hK;refine⟨v,h4,v,?_⟩;obtain⟨S',ρ',κ',g1,g2,g3,g4,g5,g6⟩:=aBm hok1.hok (B:=[]) List.nodup_nil h3 h1 h2;refine⟨S',ρ',κ',rfl,⟨g1,hok1.size,fun b hb hm=>hok1.old b hb (fun h=>h),fun b hb=>g3 b (hok1.S0 b hb),fun b hb=>?_,fun j z hj hz=>?_,hok1.out,fun j b' hj hj'=>?_⟩,g2⟩
 ·rcases g4 b hb with h|⟨n,hn,h⟩
  ·rcases hok1.Snew b h with h|h|h
   ·exact .inl h
   ·exact .inr (.inl h)
   ·exact h.elim
  ·rcases hok1.mine n b hn h with h|h
   ·exact .inr (.inl h)
   ·exact h.elim
 ·simp at hj
 ·simp at hj
end
end Go.Vs
