/- Regions whose order is drawn, by an invariant on exactly what is done; a contract out of pieces. -/
import Derived.Test.YthbnjmgjhonfbaaGreatVuA
import Derived.Below
import Derived.Deep.Upon
import Derived.Deep.Draws
import Derived.Lib.SliceRun
import Derived.Laws.AppendOwn
set_option linter.all false
set_option maxHeartbeats 8000000
namespace Go.Vs
section
variable {P:Program}
variable {I:Envs}{C1:Ctx}{σ τ:St}{a:Act}{w:World}{S:Nat→Prop}
variable {nt:Nat}{dr:Nat→Array Oper→Option (List Nat)}{Q:Exit→Act→World→Prop}
end
section
variable [Envs] {P:Program}{C:Ctx}{a:Act}{w:World}{S:Nat→Prop}{ρ:Name→Option Nat}{κ:Name→Nat}
end
section
variable {P:Program}
theorem Own.rc {S:Nat→Prop}{w:World}{x:Option Nat}{c k:Nat}{rows:List (List AV)}{v:Value} (h:Own S w x c k rows v):RC (fun b=>x=some b) w (.sl k rows) v:=by
 letI:Envs:=⟨[]⟩
 obtain⟨_,base,cap,rfl,h1,h2,h3,_⟩:=h.loc k rows false rfl;obtain⟨hrk,hblk⟩:=h.blk;rcases hblk with⟨hn,hnil⟩|⟨y,cs,T,fr,g1,g2,g3,_,_,g5,g6,g7⟩
 ·subst hnil;refine .sl k [] base cap 0 0 (fun _=>undef) (by simp) (by simp) (by simp) (by simp) (by simp) ⟨by omega,h2⟩
 ·refine .sl k rows base cap y 0 (fun i=>cs.getD i undef) (fun hne=>?_) (fun i j hi hj=>?_) (fun i j hi hj=>(g7 i j hi hj).1) (fun i j hi hj=>?_) hrk ⟨by omega,h2⟩
  ·obtain⟨z,hz,hbase⟩:=h3 (List.length_pos_iff.2 hne);have g1':x=some y:=g1;have hz':x=some z:=hz;rw[g1'] at hz';obtain rfl:=Option.some.inj hz';exact⟨by rw[hbase];simp,g1'⟩
  ·have hlt:i*k+j<cs.size:=by
    have:i*k+k≤rows.length*k:=by rw[←Nat.succ_mul];exact Nat.mul_le_mul_right k hi
    omega
   simp[World.cell?,g2,hlt]
  ·have hm:rows.getD i []∈rows:=by
    rw[List.getD_eq_getElem?_getD,List.getElem?_eq_getElem hi];exact List.getElem_mem _
   exact RC.mono (S:=fun _=>False) (w:=w) (fun _ h=>h.elim) (fun _ h=>h.elim) (((g7 i j hi hj).2).flat (gI (h.fl _ hm)))
variable {I:Envs}{C1:Ctx}{σ τ:St}{a:Act}{w:World}{S:Nat→Prop}
variable {nt:Nat}{dr:Nat→Array Oper→Option (List Nat)}{Q:Exit→Act→World→Prop}
end
section
section
variable [Envs]
variable {P:Program}{nt:Nat}{dr:Nat→Array Oper→Option (List Nat)}{Q:Exit→Act→World→Prop}{a:Act}{w:World}
def RgL (P:Program) (nt:Nat) (aops:List aJ) (Q:Exit→Act→World→Prop) (a:Act) (w:World):Prop:=
 ∀(ops:Array Oper) (L:List Nat),L.length=aops.length→(∀(j:Nat) (ao:aJ),aops[j]? = some ao→∃(i:Nat) (o:Oper),L[j]? = some i∧ops[i]? = some o∧r9 P nt ops o=some ao.bare)→wpOps P ops Q L a w
theorem RgL.nil (h:Q .normal a w):RgL P nt [] Q a w:=by
 intro ops L hl _;have:L=[]:=by simpa using hl
 subst this;exact h
theorem RgL.fw {C:Ctx}{K:St→Prop}{post:List aJ} (hK:∀(σ:St) (a:Act) (w:World) (S:Nat→Prop) (ρ:Name→Option Nat) (κ:Name→Nat),K σ→OK C σ.f a w S ρ κ→RgL P C.nt post Q a w) :
  ∀(pre:List aJ) (σ:St) (a:Act) (w:World) (S:Nat→Prop) (ρ:Name→Option Nat) (κ:Name→Nat),vc P K pre σ→OK C σ.f a w S ρ κ→RgL P C.nt (pre++post) Q a w
 | [],σ,a,w,S,ρ,κ,hv,hok=>hK σ a w S ρ κ hv hok
 | ao::r,σ,a,w,S,ρ,κ,hv,hok=>by
  intro ops L hl hs;cases L with
  |nil=>simp at hl
  |cons i L =>
  obtain⟨i',o,hi,ho,hc⟩:=hs 0 ao (by simp);obtain rfl:i=i':=by simpa using hi
  obtain⟨h1,h2,h3,h4⟩:=lY hc;rw[wpOps_cons]
  have ih:∀(σ:St) (a:Act) (w:World) (S:Nat→Prop) (ρ:Name→Option Nat) (κ:Name→Nat),vc P K r σ→OK C σ.f a w S ρ κ→wpOps P ops Q L a w:=fun σ a w S ρ κ hv hok =>
   RgL.fw hK r σ a w S ρ κ hv hok ops L (by simpa using hl) (fun j ao' hj=>by
     obtain⟨i',o',g1,g2,g3⟩:=hs (j+1) ao' (by simpa using hj);exact⟨i',o',by simpa using g1,g2,g3⟩)
  have go:bK P ao.dst σ (vc P K r) ao.op→o.wp P a w (wpOps P ops Q L) Q:=fun hst =>
   Oper.wp_mono (fun a' w' ⟨σ',S',ρ',κ',hK,hok'⟩=>ih σ' a' w' S' ρ' κ' hK hok') (uY (P:=P) h1 hok h3 (by rw[h2];exact hst))
  unfold wpOp;rw[ho];simp only[vc] at hv;rcases h4 with⟨g1,g2⟩|⟨j,want,t,g1,g2,g3⟩
  ·rw[g2] at hv;have:Region.wanted o (yielded ops a.tmps)=true:=by simp[Region.wanted,g1]
   simp only[this,if_true];exact .inl (go hv)
  ·rw[g2] at hv;simp only at hv;split at hv
   ·rename_i b hb;have hw:=xV hok g1 g3 hb;simp only[hw];by_cases hbw:b=want
    ·simp only[hbw,beq_self_eq_true,if_true];exact .inl (go ((kD.1 hv).1 hbw))
    ·have:(b==want)=false:=by simpa using hbw
     simp only[this,Bool.false_eq_true,if_false];have hn:b = !want:=by cases b<;>cases want<;>simp_all
     refine ih _ _ _ S ρ κ ((kD.1 hv).2 hn) ?_;have:=hok.put (x:=.v undef) (v:=undef) (.clo (.v _)) h3;rw[h2] at this⊢;simpa[St.f,kK,undef] using this
   ·rename_i cs hb;have hw:=xU hok g1 g3 hb;simp only[hw,Bool.false_eq_true,if_false];refine ih _ _ _ S ρ κ hv ?_;have:=hok.put (x:=.v undef) (v:=undef) (.clo (.v _)) h3;rw[h2] at this⊢;simpa[St.f,kK,undef] using this
   ·exact hv.elim
theorem RgL.op {o:aJ}{r:List aJ} (hg:o.guard=none) (h:∀(op:Oper) (ops:Array Oper),r9 P nt ops op=some o.bare→op.wp P a w (RgL P nt r Q) Q):RgL P nt (o::r) Q a w:=by
 intro ops L hl hs;cases L with
 |nil=>simp at hl
 |cons i L =>
 obtain⟨i',op,hi,ho,hc⟩:=hs 0 o (by simp);obtain rfl:i=i':=by simpa using hi
 obtain⟨_,_,_,h4⟩:=lY hc
 have hg2:op.guard=none:=by
  rcases h4 with⟨h,_⟩|⟨j,want,t,_,h,_⟩
  ·exact h
  ·rw[hg] at h;cases h
 rw[wpOps_cons];unfold wpOp;rw[ho];have:Region.wanted op (yielded ops a.tmps)=true:=by simp[Region.wanted,hg2]
 simp only[this,if_true]
 exact .inl (Oper.wp_mono (fun a' w' hr=>hr ops L (by simpa using hl) fun j ao' hj=>by
   obtain⟨i',o',g1,g2,g3⟩:=hs (j+1) ao' (by simpa using hj);exact⟨i',o',by simpa using g1,g2,g3⟩) (h op ops hc))
def vS (ops:Array Oper):Nat→Array Bool→List (List Nat)
 |0,_=>[[]]
 | fuel+1,listed =>
  match(List.range ops.size).filter fun i=>!listed.getD i true&&((ops[i]?).map (·.after.all fun e=>!Region.binds .any e||listed.getD e.on false)).getD false with
  | []=>[[]]
  |rs=>rs.flatMap fun i=>(vS ops fuel (listed.setIfInBounds i true)).map (i :: ·)
theorem aC6 (ops:Array Oper):∀(fuel t:Nat) (listed:Array Bool) (acc:List Nat),∃L,L∈vS ops fuel listed∧Region.linearise.go .any ops fuel t listed acc=acc.reverse++L
 |0,t,listed,acc=>⟨[],by simp[vS],by simp[Region.linearise.go]⟩
 | fuel+1,t,listed,acc=>by
  simp only[Region.linearise.go,vS];generalize hrs:((List.range ops.size).filter fun i=>!listed.getD i true&&((ops[i]?).map (·.after.all fun e=>!Region.binds .any e||listed.getD e.on false)).getD false)=rs;cases rs with
  |nil=>exact⟨[],by simp,by simp⟩
  | cons x xs =>
   have hlt:t%(x::xs).length<(x::xs).length:=Nat.mod_lt _ (by simp);rw[List.getElem?_eq_getElem hlt];obtain⟨L,h1,h2⟩:=aC6 ops fuel (t/(x::xs).length) (listed.setIfInBounds ((x::xs)[t%(x::xs).length]) true) ((x::xs)[t%(x::xs).length]::acc);refine⟨(x::xs)[t%(x::xs).length]::L,?_,?_⟩
   ·exact List.mem_flatMap.2 ⟨_,List.getElem_mem hlt,List.mem_map.2 ⟨L,h1,rfl⟩⟩
   ·simp only[h2];simp
def aMn (ops:Array Oper):List (List Nat):=vS ops ops.size (Array.replicate ops.size false)
theorem aGh (ops:Array Oper) (t:Nat):Region.schedule true ops t∈aMn ops:=by
 obtain⟨L,h1,h2⟩:=aC6 ops ops.size t (Array.replicate ops.size false) []
 have e:Region.schedule true ops t=L:=by
  simp only[Region.schedule,Bool.true_or,if_true,Region.linearise];simpa using h2
 rw[e];exact h1
end
variable {P:Program}{nt:Nat}{dr:Nat→Array Oper→Option (List Nat)}{Q:Exit→Act→World→Prop}{a:Act}{w:World}
variable {I:Envs}{C1:Ctx}{σ τ:St}{S:Nat→Prop}
end
section
variable {P:Program}{nt:Nat}{Q:Exit→Act→World→Prop}{a:Act}{w:World}{S:Nat→Prop}
variable {I:Envs}{C1:Ctx}{σ τ:St}
end
section
theorem At.closing {P:Program}{nt:Nat}{dr:Nat→Array Oper→Option (List Nat)}{n:Nat}{x:aD}{Q:Exit→Act→World→Prop}{a:Act}{w:World} (h:At P nt dr x Q a w):At P nt dr (.closing n x) Q a w:=h
section
variable [Envs]
variable {P:Program}{nt:Nat}{Q:Exit→Act→World→Prop}
end
section
variable [I:Envs]
variable {P:Program}{nt:Nat}{Q:Exit→Act→World→Prop}{a:Act}{w:World}
end
variable {P:Program}{I:Envs}{C1:Ctx}{σ τ:St}{S:Nat→Prop}{a:Act}{w:World}
end
section

end
section
def nD (ops:Array Oper) (i:Nat) (p:Nat→Bool):Bool:=((ops[i]?).map (·.after.all fun e=>!Region.binds .any e||p e.on)).getD false
def aDm (n n1:Nat):Array Bool:=Array.ofFn (n:=n) fun j=>decide (j.1<n1)
def chkI (ops:Array Oper) (n1:Nat) (deps:List (Nat×Nat)) (OT:List (List Nat)):Bool:=
 ((List.range ops.size).all fun i=>nD ops i fun k=>decide (k<i)) &&
 ((List.range ops.size).all fun i=>decide (i<n1)||(List.range n1).all fun k=>wC ops ops.size k i) &&
 (deps.all fun p=>!nD ops p.1 fun k=>k != p.2) &&
 (vS ops (ops.size-n1) (aDm ops.size n1)==OT)
def drI (P:Program) (n0 n1:Nat) (deps:List (Nat×Nat)) (OT:List (List Nat)) (nt:Nat) (ops:Array Oper):Option (List Nat):=
 if ops.size==n0&&!(chkI ops n1 deps OT) then none else iL P nt ops
theorem aHW {ops:Array Oper}{i k:Nat}{p:Nat→Bool} (h:nD ops i p=true) (hk:nD ops i (fun j=>j != k)=false):p k=true:=by
 unfold nD at h hk;cases ho:ops[i]? with
 |none=>rw[ho] at h;simp at h
 | some o =>
  rw[ho] at h hk;simp only[Option.map_some,Option.getD_some] at h hk;rw[←Bool.not_eq_true,Array.all_eq_true] at hk;rw[Array.all_eq_true] at h;obtain⟨j,hj⟩:=Classical.not_forall.1 hk;obtain⟨hj2,hj3⟩:=Classical.not_forall.1 hj;have:=h j hj2;generalize o.after[j]=e at *
  cases hb:Region.binds .any e
  ·simp[hb] at hj3
  ·simp only[hb,Bool.not_true,Bool.false_or] at this hj3;have:e.on=k:=by simpa using hj3
   rw[←this];assumption
theorem zJ {ops:Array Oper}{i:Nat}{p q:Nat→Bool} (h:nD ops i p=true) (hpq:∀k,p k=true→q k=true):nD ops i q=true:=by
 unfold nD at h⊢;cases ho:ops[i]? with
 |none=>rw[ho] at h;simp at h
 | some o =>
  rw[ho] at h;simp only[Option.map_some,Option.getD_some] at h⊢;rw[Array.all_eq_true] at h⊢;intro j hj;have:=h j hj;cases hb:Region.binds .any o.after[j]
  ·simp
  ·simp only[hb,Bool.not_true,Bool.false_or] at this⊢;exact hpq _ this
theorem ancP {ops:Array Oper}{p:Nat→Bool} (hc:∀j,p j=true→nD ops j p=true):∀(n k i:Nat),wC ops n k i=true→nD ops i p=true→p k=true
 |0,k,i,h,_=>by simp[wC] at h
 | n+1,k,i,h,he=>by
  unfold nD at he;unfold wC at h;cases ho:ops[i]? with
  |none=>rw[ho] at h;simp at h
  | some o =>
   rw[ho] at h he;simp only[Option.map_some,Option.getD_some] at h he;rw[Array.any_eq_true] at h;rw[Array.all_eq_true] at he;obtain⟨j,hj,h2⟩:=h;have h3:=he j hj;simp only[Bool.and_eq_true,Bool.or_eq_true] at h2;obtain⟨hb,h4⟩:=h2;simp only[hb,Bool.not_true,Bool.false_or] at h3;rcases h4 with h4|h4
   ·have:o.after[j].on=k:=by simpa using h4
    rw[←this];exact h3
   ·exact ancP hc n k _ h4 (hc _ h3)
theorem filter_one {i:Nat}:∀{l:List Nat},l.Nodup→i∈l→(l.filter fun j=>j != i).length+1=l.length
 | x::l,hn,h=>by
  obtain⟨h1,h2⟩:=List.nodup_cons.1 hn;by_cases e:x=i
  ·subst e
   have:(l.filter fun j=>j != x)=l:=List.filter_eq_self.2 fun a ha=>by
    have:a≠x:=fun e=>h1 (e ▸ ha);simpa using this
   simp[this]
  ·have hi:i∈l:=by simpa[Ne.symm e] using h
   have:=filter_one h2 hi;have hx:(x != i)=true:=by simpa using e
   rw[List.filter_cons,if_pos hx,List.length_cons,List.length_cons];omega
section
variable [Envs]
variable {P:Program}{nt:Nat}{Q:Exit→Act→World→Prop}
end
theorem aIM (ops:Array Oper):∀(fuel:Nat) (listed:Array Bool) (L:List Nat),L∈vS ops fuel listed→∀i,i∈L→i<ops.size
 | 0,listed,L,h,i,hi=>by
  rw[vS,List.mem_singleton] at h;subst h;cases hi
 | fuel+1,listed,L,h,i,hi=>by
  rw[vS] at h;generalize hrs:((List.range ops.size).filter fun i=>!listed.getD i true&&((ops[i]?).map (·.after.all fun e=>!Region.binds .any e||listed.getD e.on false)).getD false)=rs at h;cases rs with
  |nil=>rw[List.mem_singleton] at h;subst h;cases hi
  | cons x xs =>
   simp only[List.mem_flatMap,List.mem_map] at h;obtain⟨k,hk,L',hL',rfl⟩:=h;rcases List.mem_cons.1 hi with rfl|hi
   ·rw[←hrs] at hk;exact List.mem_range.1 (List.mem_filter.1 hk).1
   ·exact aIM ops fuel _ L' hL' i hi
section
variable [I:Envs]
variable {P:Program}{nt:Nat}{Q:Exit→Act→World→Prop}{a:Act}{w:World}
theorem aAX (hm:P.follows .mixedOrders=true) (n0 n1:Nat) (deps:List (Nat×Nat)) (OT:List (List Nat)):nG P (drI P n0 n1 deps OT):=by
 intro C id ops aops fl K Q σ a w S ρ κ hd;refine pM hm C id ops aops fl K Q σ a w S ρ κ ?_;unfold drI at hd;split at hd
 ·cases hd
 ·exact hd
end
variable {P:Program}{nt:Nat}{Q:Exit→Act→World→Prop}{a:Act}{w:World}
variable {I:Envs}{C1:Ctx}{σ:St}{S:Nat→Prop}
end
section
section
variable [Envs]
variable {P:Program}
end
end
section
section
variable [Envs]
variable {P:Program}
open Go.RowKit
end
end
section
variable {P:Program}{I:Envs}{C1:Ctx}{σ τ:St}{a:Act}{w:World}{S:Nat→Prop}
end
section
section
variable [Envs]
variable {P:Program}{nt:Nat}{Q:Exit→Act→World→Prop}
theorem ordJ {ops:Array Oper}{aops:List aJ}{n1:Nat}{deps:List (Nat×Nat)}{OT:List (List Nat)} (hchk:chkI ops n1 deps OT=true) (hn1:n1≤ops.size) (Inv:(Nat→Prop)→Act→World→Prop)
  (hstep:∀(i:Nat) (D:Nat→Prop) (a:Act) (w:World) (rest:List aJ),i<n1→¬D i→(∀k,(i,k)∈deps→D k)→Inv D a w→(∀a' w',Inv (fun j=>D j∨j=i) a' w'→RgL P nt rest Q a' w')→RgL P nt (aops.getD i default::rest) Q a w)
  (hinv:∀(D D':Nat→Prop) a w,(∀j,D' j↔D j)→Inv D a w→Inv D' a w)
  (hT:∀a w,Inv (fun j=>j<n1) a w→∀L,L∈OT→RgL P nt (L.map fun i=>aops.getD i default) Q a w) :
  ∀ (c:Nat) (listed:Array Bool) (a:Act) (w:World) (L:List Nat),listed.size=ops.size→(∀j,n1≤j→listed.getD j false=false)→(∀j,listed.getD j false=true→nD ops j (fun k=>listed.getD k false)=true)→
   ((List.range n1).filter fun j=>!listed.getD j false).length=c→L∈vS ops (ops.size-n1+c) listed→Inv (fun j=>listed.getD j false=true) a w→RgL P nt (L.map fun i=>aops.getD i default) Q a w:=by
 unfold chkI at hchk;simp only[Bool.and_eq_true,List.all_eq_true,List.mem_range,Bool.or_eq_true,decide_eq_true_eq] at hchk;obtain⟨⟨⟨hback,hanc⟩,hdeps⟩,hOT⟩:=hchk;have hOT:vS ops (ops.size-n1) (aDm ops.size n1)=OT:=by simpa using hOT
 intro c
 induction c with
 | zero =>
  intro listed a w L hsz hhi hcl hc hL hI
  have hall:∀j,j<n1→listed.getD j false=true:=fun j hj=>by
   have h0:=List.length_eq_zero_iff.1 hc;have:=List.filter_eq_nil_iff.1 h0 j (List.mem_range.2 hj);simpa using this
  have e:listed=aDm ops.size n1:=by
   refine Array.ext (by simp[aDm,hsz]) fun j h1 h2=>?_;have g:listed.getD j false=listed[j]:=by simp[Array.getD,h1]
   have hR:(aDm ops.size n1)[j]=decide (j<n1):=by simp[aDm]
   rw[hR,←g];by_cases hj:j<n1
   ·rw[hall j hj];simp[hj]
   ·rw[hhi j (by omega)];simp[hj]
  rw[e,Nat.add_zero,hOT] at hL
  exact hT a w (hinv _ _ a w (fun j=>⟨fun hj=>hall j hj,fun hj=>by
    rcases Nat.lt_or_ge j n1 with h|h
    · exact h
    · rw[hhi j h] at hj;cases hj⟩) hI) L hL
 | succ c ih =>
  intro listed a w L hsz hhi hcl hc hL hI
  have hun:∃n,n<n1∧listed.getD n false=false:=by
   have hne:((List.range n1).filter fun j=>!listed.getD j false)≠[]:=fun e=>by rw[e] at hc;simp at hc
   obtain⟨x,hx⟩:=List.exists_mem_of_ne_nil _ hne;obtain⟨h1,h2⟩:=List.mem_filter.1 hx;exact⟨x,List.mem_range.1 h1,by simpa using h2⟩
  obtain⟨x,⟨hx1,hx2⟩,hmin⟩:=least _ hun;rw[show ops.size-n1+(c+1)=(ops.size-n1+c)+1 by omega,vS] at hL
  have hgd:∀j,j<ops.size→listed.getD j true=listed.getD j false:=fun j hj=>by
   have:j<listed.size:=by omega
   simp[Array.getD,this]
  have hxr:x∈(List.range ops.size).filter fun i=>!listed.getD i true&&((ops[i]?).map (·.after.all fun e=>!Region.binds .any e||listed.getD e.on false)).getD false:=by
   refine List.mem_filter.2 ⟨List.mem_range.2 (by omega),?_⟩;rw[hgd x (by omega),hx2]
   change (true&&nD ops x (fun k=>listed.getD k false))=true
   rw[Bool.true_and];refine zJ (hback x (by omega)) fun k hk=>?_;have hk:k<x:=by simpa using hk
   cases hlk:listed.getD k false
   ·have:=hmin k ⟨by omega,hlk⟩;omega
   ·rfl
  generalize hrs:((List.range ops.size).filter fun i=>!listed.getD i true&&((ops[i]?).map (·.after.all fun e=>!Region.binds .any e||listed.getD e.on false)).getD false)=rs at hL hxr;cases rs with
  |nil=>cases hxr
  | cons y ys =>
   simp only[List.mem_flatMap,List.mem_map] at hL;obtain⟨i,hi,L',hL',rfl⟩:=hL;rw[←hrs] at hi;obtain⟨hi1,hi2⟩:=List.mem_filter.1 hi;have hi1:=List.mem_range.1 hi1;simp only[Bool.and_eq_true] at hi2;obtain⟨hi2,hi3⟩:=hi2;have hi3:nD ops i (fun k=>listed.getD k false)=true:=hi3;rw[hgd i hi1] at hi2;have hi2:listed.getD i false=false:=by simpa using hi2
   have hin:i<n1:=by
    rcases Nat.lt_or_ge i n1 with h|h
    ·exact h
    ·rcases hanc i hi1 with h'|h'
     ·exact h'
     ·have:=ancP hcl ops.size x i (h' x hx1) hi3;rw[hx2] at this;cases this
   have hset:∀j,(listed.setIfInBounds i true).getD j false=if j=i then true else listed.getD j false:=fun j=>by
    by_cases e:j=i
    ·subst e;have:j<listed.size:=by omega
     simp[Array.getD,this]
    ·simp only[e,if_false];rw[Array.getD_eq_getD_getElem?,Array.getD_eq_getD_getElem?,Array.getElem?_setIfInBounds_ne (Ne.symm e)]
   refine hstep i _ a w _ hin (by rw[hi2];decide) (fun k hk=>?_) hI fun a' w' hI'=>?_
   ·have:=hdeps (i,k) hk;exact aHW hi3 (by simpa using this)
   ·refine ih (listed.setIfInBounds i true) a' w' L' (by simpa using hsz) (fun j hj=>?_) (fun j hj=>?_) ?_ hL' (hinv _ _ a' w' (fun j=>?_) hI')
    ·rw[hset j,if_neg (by omega)];exact hhi j hj
    ·have hm:∀k,listed.getD k false=true→(listed.setIfInBounds i true).getD k false=true:=fun k hk=>by
      rw[hset k];split
      ·rfl
      ·exact hk
     rw[hset j] at hj;split at hj
     ·rename_i e;subst e;exact zJ hi3 hm
     ·exact zJ (hcl j hj) hm
    ·have e:((List.range n1).filter fun j=>!(listed.setIfInBounds i true).getD j false)=((List.range n1).filter fun j=>!listed.getD j false).filter fun j=>j != i:=by
      rw[List.filter_filter];refine List.filter_congr fun j _=>?_;rw[hset j];by_cases e:j=i
      ·simp[e]
      ·simp[e]
     have hmem:i∈(List.range n1).filter fun j=>!listed.getD j false:=List.mem_filter.2 ⟨List.mem_range.2 hin,by rw[hi2];rfl⟩;have:=filter_one (List.nodup_range.filter _) hmem;rw[e];omega
    ·rw[hset j];by_cases e:j=i
     ·simp[e]
     ·simp[e]
end
section
variable [I:Envs]
variable {P:Program}{nt:Nat}{Q:Exit→Act→World→Prop}{a:Act}{w:World}
theorem At.rgJ (hm:P.follows .mixedOrders=true) {n0 n1:Nat}{deps:List (Nat×Nat)}{OT:List (List Nat)}{aops:List aJ}{out:List Nat}{f0:Nat}{fl:List Nat} (hn:aops.length=n0) (hn1:n1≤n0) (Inv:(Nat→Prop)→Act→World→Prop)
  (hstep:∀(i:Nat) (D:Nat→Prop) (a:Act) (w:World) (rest:List aJ),i<n1→¬D i→(∀k,(i,k)∈deps→D k)→Inv D a w→(∀a' w',Inv (fun j=>D j∨j=i) a' w'→RgL P nt rest Q a' w')→RgL P nt (aops.getD i default::rest) Q a w)
  (hinv:∀(D D':Nat→Prop) a w,(∀j,D' j↔D j)→Inv D a w→Inv D' a w)
  (h0:Inv (fun _=>False) a {w with drawn:=w.drawn+1})
  (hL:∀L,L∈OT→∀i,i∈L→i<n0)
  (hT:∀a w,Inv (fun j=>j<n1) a w→∀L,L∈OT→RgL P nt (L.map fun i=>aops.getD i default) Q a w):At P nt (drI P n0 n1 deps OT) (.region aops out (f0::fl)) Q a w:=by
 intro c hc hzc;cases c
 case region id ops draw =>
  simp only[bU,aD.bare] at hc;split at hc
  ·rename_i fl' hdraw;cases ho:aCS P nt ops ops.toList with
   |none=>rw[ho] at hc;cases hc
   | some l =>
    rw[ho] at hc;simp only[Option.map_some,Option.some.injEq,aD.region.injEq,true_and] at hc;obtain⟨hl,hfl⟩:=hc;subst hl;subst hfl;cases draw with
    |false=>simp at hdraw
    | true =>
     have hd:drI P n0 n1 deps OT nt ops=some (f0::fl):=by simpa using hdraw
     obtain⟨g1,g2⟩:=qN ho;have hlen:ops.size=aops.length:=by simpa using g1
     have hck:chkI ops n1 deps OT=true:=by
      unfold drI at hd;split at hd
      ·cases hd
      ·rename_i hne;simp only[hlen,hn,beq_self_eq_true,Bool.true_and,Bool.not_eq_true',Bool.not_eq_false] at hne;simpa using hne
     refine wp_region_draw fun t=>?_;rw[hm];have hmem:=aGh ops t
     have hlt:∀i,i∈Region.schedule true ops t→i<aops.length:=fun i hi=>by
      rw[←hlen];exact aIM ops ops.size _ _ hmem i hi
     have key:RgL P nt ((Region.schedule true ops t).map fun i=>aops.getD i default) Q a {w with drawn:=w.drawn+1}:=by
      refine ordJ hck (by omega) Inv hstep hinv hT n1 (Array.replicate ops.size false) a _ _ (by simp) (fun j _=>?_) (fun j hj=>?_) ?_ ?_ (hinv _ _ _ _ (fun j=>⟨fun hj=>?_,fun hj=>hj.elim⟩) h0)
      ·simp only[Array.getD_eq_getD_getElem?,Array.getElem?_replicate];split<;>rfl
      ·simp only[Array.getD_eq_getD_getElem?,Array.getElem?_replicate] at hj;split at hj<;>cases hj
      ·rw[List.filter_eq_self.2]
       ·simp
       ·intro j _;simp only[Array.getD_eq_getD_getElem?,Array.getElem?_replicate];split<;>rfl
      ·rw[show ops.size-n1+n1=ops.size by omega];exact hmem
      ·simp only[Array.getD_eq_getD_getElem?,Array.getElem?_replicate] at hj;split at hj<;>cases hj
     refine key ops _ (by simp) fun j ao hj=>?_;generalize Region.schedule true ops t=L at hlt hj;simp only[List.getElem?_map,Option.map_eq_some_iff] at hj;obtain⟨i,hi,rfl⟩:=hj;have hil:i<aops.length:=hlt i (List.mem_of_getElem? hi);obtain⟨o,q1,q2⟩:=g2 i (aops.getD i default) (by simp[hil]);exact⟨i,o,hi,by simpa using q1,q2⟩
  ·cases hc
 all_goals(simp only[bU,aD.bare] at hc;first|(cases hc;done)|(split at hc<;>simp at hc)|(simp at hc))
end
theorem Fn.of_at [Envs] {P:Program}{dr:Nat→Array Oper→Option (List Nat)}{f:FuncId}{fn:Func}{body:Code}{ac:aD}{args:List AV}{r:AV} (hf:P.funcs[f]? = some fn) (hb:fn.body=some body) (hname:fn.name≠"runtime.NumGoroutine") (hc:bU P fn.ntmps dr body=some ac.bare) (hz:zB fn.ntmps dr body=true) (hna:args.length≤fn.ntmps) (hcl:∀x,x∈args→o7 x=true)
  (h:∀(C:Ctx) (a:Act) (w:World) (S:Nat→Prop) (ρ:Name→Option Nat) (κ:Name→Nat),C.nt=fn.ntmps→OK C (⟨ini 0 args,[]⟩:St).f a w S ρ κ→At P fn.ntmps dr ac (fun e a' w'=>(e=.ret∨e=.normal)∧dF C (wQ P fn.results.toList [] r []) a' w') a w):Fn P f [] args r []:=by
 refine⟨⟨fn,body,hf,hb,hname⟩,fun S w ρ κ vs hok _ hvs hargs=>?_⟩;refine aJL hf hb hc hz hna hok.dom hok.env hvs (fun j hj=>(hargs j hj).closed (hcl _ (by rw[List.getD_eq_getElem?_getD,List.getElem?_eq_getElem hj];exact List.getElem_mem _))) (fun _=>False) fun a hok1=>?_;refine(h _ a w S _ _ rfl hok1).mono (fun e a' w' hq=>?_);obtain⟨he,σ,S1,ρ1,κ1,hK,hok1⟩:=hq;refine⟨he,hok1.defers,?_⟩;obtain⟨x,v,⟨L1,L2,h1,h2⟩,h3,h4⟩:=aDP hok1 (K:=fun x=>∃L1 L2,conv (aB σ.h) 8 [] false x=some (r,L1)∧uS (aB σ.h) [] []=some (([]:List Blk),L2)) hK;refine⟨v,h4,v,?_⟩;obtain⟨S',ρ',κ',g1,g2,g3,g4,g5,g6⟩:=aBh hok1.hok (B:=[]) List.nodup_nil h3 h1 h2;refine⟨S',ρ',κ',rfl,⟨g1,hok1.size,fun b hb hm=>hok1.old b hb (fun h=>h),fun b hb=>g3 b (hok1.S0 b hb),fun b hb=>?_,fun j z hj hz=>?_,hok1.out,fun j b' hj hj'=>?_⟩,g2⟩
 ·rcases g4 b hb with h|⟨n,hn,h⟩
  ·rcases hok1.Snew b h with h|h|h
   ·exact .inl h
   ·exact .inr (.inl h)
   ·exact h.elim
  ·rcases hok1.mine n b hn h with h|h
   ·exact .inr (.inl h)
   ·exact h.elim
 ·simp at hj
 ·simp at hj
end
end Go.Vs
