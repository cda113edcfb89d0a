/- slices.Clone and slices.Delete at rows, out of what their walks say of cells. -/
import Derived.Test.YtonkjfiffcfaoaaGreatVuA
import Derived.Below
import Derived.Deep.Upon
import Derived.Deep.Draws
import Derived.Lib.SliceRun
import Derived.Laws.AppendOwn
set_option linter.all false
set_option maxHeartbeats 8000000
namespace Go.Vs
section
variable {P:Program}
variable {I:Envs}{C1:Ctx}{σ τ:St}{a:Act}{w:World}{S:Nat→Prop}
variable {nt:Nat}{dr:Nat→Array Oper→Option (List Nat)}{Q:Exit→Act→World→Prop}
end
section
variable [Envs] {P:Program}{C:Ctx}{a:Act}{w:World}{S:Nat→Prop}{ρ:Name→Option Nat}{κ:Name→Nat}
end
section
variable {P:Program}
theorem Own.rc {S:Nat→Prop}{w:World}{x:Option Nat}{c k:Nat}{rows:List (List AV)}{v:Value} (h:Own S w x c k rows v):RC (fun b=>x=some b) w (.sl k rows) v:=by
 letI:Envs:=⟨[]⟩
 obtain⟨_,base,cap,rfl,h1,h2,h3,_⟩:=h.loc k rows false rfl;obtain⟨hrk,hblk⟩:=h.blk;rcases hblk with⟨hn,hnil⟩|⟨y,cs,T,fr,g1,g2,g3,_,_,g5,g6,g7⟩
 ·subst hnil;refine .sl k [] base cap 0 0 (fun _=>undef) (by simp) (by simp) (by simp) (by simp) (by simp) ⟨by omega,h2⟩
 ·refine .sl k rows base cap y 0 (fun i=>cs.getD i undef) (fun hne=>?_) (fun i j hi hj=>?_) (fun i j hi hj=>(g7 i j hi hj).1) (fun i j hi hj=>?_) hrk ⟨by omega,h2⟩
  ·obtain⟨z,hz,hbase⟩:=h3 (List.length_pos_iff.2 hne);have g1':x=some y:=g1;have hz':x=some z:=hz;rw[g1'] at hz';obtain rfl:=Option.some.inj hz';exact⟨by rw[hbase];simp,g1'⟩
  ·have hlt:i*k+j<cs.size:=by
    have:i*k+k≤rows.length*k:=by rw[←Nat.succ_mul];exact Nat.mul_le_mul_right k hi
    omega
   simp[World.cell?,g2,hlt]
  ·have hm:rows.getD i []∈rows:=by
    rw[List.getD_eq_getElem?_getD,List.getElem?_eq_getElem hi];exact List.getElem_mem _
   exact RC.mono (S:=fun _=>False) (w:=w) (fun _ h=>h.elim) (fun _ h=>h.elim) (((g7 i j hi hj).2).flat (fV (h.fl _ hm)))
variable {I:Envs}{C1:Ctx}{σ τ:St}{a:Act}{w:World}{S:Nat→Prop}
variable {nt:Nat}{dr:Nat→Array Oper→Option (List Nat)}{Q:Exit→Act→World→Prop}
end
section
section
variable [Envs]
variable {P:Program}{nt:Nat}{dr:Nat→Array Oper→Option (List Nat)}{Q:Exit→Act→World→Prop}{a:Act}{w:World}
def RgL (P:Program) (nt:Nat) (aops:List aJ) (Q:Exit→Act→World→Prop) (a:Act) (w:World):Prop:=
 ∀(ops:Array Oper) (L:List Nat),L.length=aops.length→(∀(j:Nat) (ao:aJ),aops[j]? = some ao→∃(i:Nat) (o:Oper),L[j]? = some i∧ops[i]? = some o∧rX P nt ops o=some ao.bare)→wpOps P ops Q L a w
theorem RgL.nil (h:Q .normal a w):RgL P nt [] Q a w:=by
 intro ops L hl _;have:L=[]:=by simpa using hl
 subst this;exact h
theorem RgL.fw {C:Ctx}{K:St→Prop}{post:List aJ} (hK:∀(σ:St) (a:Act) (w:World) (S:Nat→Prop) (ρ:Name→Option Nat) (κ:Name→Nat),K σ→OK C σ.f a w S ρ κ→RgL P C.nt post Q a w) :
  ∀(pre:List aJ) (σ:St) (a:Act) (w:World) (S:Nat→Prop) (ρ:Name→Option Nat) (κ:Name→Nat),vc P K pre σ→OK C σ.f a w S ρ κ→RgL P C.nt (pre++post) Q a w
 | [],σ,a,w,S,ρ,κ,hv,hok=>hK σ a w S ρ κ hv hok
 | ao::r,σ,a,w,S,ρ,κ,hv,hok=>by
  intro ops L hl hs;cases L with
  |nil=>simp at hl
  |cons i L =>
  obtain⟨i',o,hi,ho,hc⟩:=hs 0 ao (by simp);obtain rfl:i=i':=by simpa using hi
  obtain⟨h1,h2,h3,h4⟩:=lZ hc;rw[wpOps_cons]
  have ih:∀(σ:St) (a:Act) (w:World) (S:Nat→Prop) (ρ:Name→Option Nat) (κ:Name→Nat),vc P K r σ→OK C σ.f a w S ρ κ→wpOps P ops Q L a w:=fun σ a w S ρ κ hv hok =>
   RgL.fw hK r σ a w S ρ κ hv hok ops L (by simpa using hl) (fun j ao' hj=>by
     obtain⟨i',o',g1,g2,g3⟩:=hs (j+1) ao' (by simpa using hj);exact⟨i',o',by simpa using g1,g2,g3⟩)
  have go:bJ P ao.dst σ (vc P K r) ao.op→o.wp P a w (wpOps P ops Q L) Q:=fun hst =>
   Oper.wp_mono (fun a' w' ⟨σ',S',ρ',κ',hK,hok'⟩=>ih σ' a' w' S' ρ' κ' hK hok') (uU (P:=P) h1 hok h3 (by rw[h2];exact hst))
  unfold wpOp;rw[ho];simp only[vc] at hv;rcases h4 with⟨g1,g2⟩|⟨j,want,t,g1,g2,g3⟩
  ·rw[g2] at hv;have:Region.wanted o (yielded ops a.tmps)=true:=by simp[Region.wanted,g1]
   simp only[this,if_true];exact .inl (go hv)
  ·rw[g2] at hv;simp only at hv;split at hv
   ·rename_i b hb;have hw:=xN hok g1 g3 hb;simp only[hw];by_cases hbw:b=want
    ·simp only[hbw,beq_self_eq_true,if_true];exact .inl (go ((kC.1 hv).1 hbw))
    ·have:(b==want)=false:=by simpa using hbw
     simp only[this,Bool.false_eq_true,if_false];have hn:b = !want:=by cases b<;>cases want<;>simp_all
     refine ih _ _ _ S ρ κ ((kC.1 hv).2 hn) ?_;have:=hok.put (x:=.v undef) (v:=undef) (.clo (.v _)) h3;rw[h2] at this⊢;simpa[St.f,kM,undef] using this
   ·rename_i cs hb;have hw:=xM hok g1 g3 hb;simp only[hw,Bool.false_eq_true,if_false];refine ih _ _ _ S ρ κ hv ?_;have:=hok.put (x:=.v undef) (v:=undef) (.clo (.v _)) h3;rw[h2] at this⊢;simpa[St.f,kM,undef] using this
   ·exact hv.elim
theorem RgL.op {o:aJ}{r:List aJ} (hg:o.guard=none) (h:∀(op:Oper) (ops:Array Oper),rX P nt ops op=some o.bare→op.wp P a w (RgL P nt r Q) Q):RgL P nt (o::r) Q a w:=by
 intro ops L hl hs;cases L with
 |nil=>simp at hl
 |cons i L =>
 obtain⟨i',op,hi,ho,hc⟩:=hs 0 o (by simp);obtain rfl:i=i':=by simpa using hi
 obtain⟨_,_,_,h4⟩:=lZ hc
 have hg2:op.guard=none:=by
  rcases h4 with⟨h,_⟩|⟨j,want,t,_,h,_⟩
  ·exact h
  ·rw[hg] at h;cases h
 rw[wpOps_cons];unfold wpOp;rw[ho];have:Region.wanted op (yielded ops a.tmps)=true:=by simp[Region.wanted,hg2]
 simp only[this,if_true]
 exact .inl (Oper.wp_mono (fun a' w' hr=>hr ops L (by simpa using hl) fun j ao' hj=>by
   obtain⟨i',o',g1,g2,g3⟩:=hs (j+1) ao' (by simpa using hj);exact⟨i',o',by simpa using g1,g2,g3⟩) (h op ops hc))
def vP (ops:Array Oper):Nat→Array Bool→List (List Nat)
 |0,_=>[[]]
 | fuel+1,listed =>
  match(List.range ops.size).filter fun i=>!listed.getD i true&&((ops[i]?).map (·.after.all fun e=>!Region.binds .any e||listed.getD e.on false)).getD false with
  | []=>[[]]
  |rs=>rs.flatMap fun i=>(vP ops fuel (listed.setIfInBounds i true)).map (i :: ·)
theorem aC4 (ops:Array Oper):∀(fuel t:Nat) (listed:Array Bool) (acc:List Nat),∃L,L∈vP ops fuel listed∧Region.linearise.go .any ops fuel t listed acc=acc.reverse++L
 |0,t,listed,acc=>⟨[],by simp[vP],by simp[Region.linearise.go]⟩
 | fuel+1,t,listed,acc=>by
  simp only[Region.linearise.go,vP];generalize hrs:((List.range ops.size).filter fun i=>!listed.getD i true&&((ops[i]?).map (·.after.all fun e=>!Region.binds .any e||listed.getD e.on false)).getD false)=rs;cases rs with
  |nil=>exact⟨[],by simp,by simp⟩
  | cons x xs =>
   have hlt:t%(x::xs).length<(x::xs).length:=Nat.mod_lt _ (by simp);rw[List.getElem?_eq_getElem hlt];obtain⟨L,h1,h2⟩:=aC4 ops fuel (t/(x::xs).length) (listed.setIfInBounds ((x::xs)[t%(x::xs).length]) true) ((x::xs)[t%(x::xs).length]::acc);refine⟨(x::xs)[t%(x::xs).length]::L,?_,?_⟩
   ·exact List.mem_flatMap.2 ⟨_,List.getElem_mem hlt,List.mem_map.2 ⟨L,h1,rfl⟩⟩
   ·simp only[h2];simp
def aMb (ops:Array Oper):List (List Nat):=vP ops ops.size (Array.replicate ops.size false)
theorem aF9 (ops:Array Oper) (t:Nat):Region.schedule true ops t∈aMb ops:=by
 obtain⟨L,h1,h2⟩:=aC4 ops ops.size t (Array.replicate ops.size false) []
 have e:Region.schedule true ops t=L:=by
  simp only[Region.schedule,Bool.true_or,if_true,Region.linearise];simpa using h2
 rw[e];exact h1
end
variable {P:Program}{nt:Nat}{dr:Nat→Array Oper→Option (List Nat)}{Q:Exit→Act→World→Prop}{a:Act}{w:World}
variable {I:Envs}{C1:Ctx}{σ τ:St}{S:Nat→Prop}
end
section
variable {P:Program}{nt:Nat}{Q:Exit→Act→World→Prop}{a:Act}{w:World}{S:Nat→Prop}
variable {I:Envs}{C1:Ctx}{σ τ:St}
end
section
theorem At.closing {P:Program}{nt:Nat}{dr:Nat→Array Oper→Option (List Nat)}{n:Nat}{x:aD}{Q:Exit→Act→World→Prop}{a:Act}{w:World} (h:At P nt dr x Q a w):At P nt dr (.closing n x) Q a w:=h
section
variable [Envs]
variable {P:Program}{nt:Nat}{Q:Exit→Act→World→Prop}
end
section
variable [I:Envs]
variable {P:Program}{nt:Nat}{Q:Exit→Act→World→Prop}{a:Act}{w:World}
end
variable {P:Program}{I:Envs}{C1:Ctx}{σ τ:St}{S:Nat→Prop}{a:Act}{w:World}
end
section

end
section
def nC (ops:Array Oper) (i:Nat) (p:Nat→Bool):Bool:=((ops[i]?).map (·.after.all fun e=>!Region.binds .any e||p e.on)).getD false
def aDh (n n1:Nat):Array Bool:=Array.ofFn (n:=n) fun j=>decide (j.1<n1)
def chkI (ops:Array Oper) (n1:Nat) (deps:List (Nat×Nat)) (OT:List (List Nat)):Bool:=
 ((List.range ops.size).all fun i=>nC ops i fun k=>decide (k<i)) &&
 ((List.range ops.size).all fun i=>decide (i<n1)||(List.range n1).all fun k=>vX ops ops.size k i) &&
 (deps.all fun p=>!nC ops p.1 fun k=>k != p.2) &&
 (vP ops (ops.size-n1) (aDh ops.size n1)==OT)
def drI (P:Program) (n0 n1:Nat) (deps:List (Nat×Nat)) (OT:List (List Nat)) (nt:Nat) (ops:Array Oper):Option (List Nat):=
 if ops.size==n0&&!(chkI ops n1 deps OT) then none else iF P nt ops
theorem aHP {ops:Array Oper}{i k:Nat}{p:Nat→Bool} (h:nC ops i p=true) (hk:nC ops i (fun j=>j != k)=false):p k=true:=by
 unfold nC at h hk;cases ho:ops[i]? with
 |none=>rw[ho] at h;simp at h
 | some o =>
  rw[ho] at h hk;simp only[Option.map_some,Option.getD_some] at h hk;rw[←Bool.not_eq_true,Array.all_eq_true] at hk;rw[Array.all_eq_true] at h;obtain⟨j,hj⟩:=Classical.not_forall.1 hk;obtain⟨hj2,hj3⟩:=Classical.not_forall.1 hj;have:=h j hj2;generalize o.after[j]=e at *
  cases hb:Region.binds .any e
  ·simp[hb] at hj3
  ·simp only[hb,Bool.not_true,Bool.false_or] at this hj3;have:e.on=k:=by simpa using hj3
   rw[←this];assumption
theorem zL {ops:Array Oper}{i:Nat}{p q:Nat→Bool} (h:nC ops i p=true) (hpq:∀k,p k=true→q k=true):nC ops i q=true:=by
 unfold nC at h⊢;cases ho:ops[i]? with
 |none=>rw[ho] at h;simp at h
 | some o =>
  rw[ho] at h;simp only[Option.map_some,Option.getD_some] at h⊢;rw[Array.all_eq_true] at h⊢;intro j hj;have:=h j hj;cases hb:Region.binds .any o.after[j]
  ·simp
  ·simp only[hb,Bool.not_true,Bool.false_or] at this⊢;exact hpq _ this
theorem ancP {ops:Array Oper}{p:Nat→Bool} (hc:∀j,p j=true→nC ops j p=true):∀(n k i:Nat),vX ops n k i=true→nC ops i p=true→p k=true
 |0,k,i,h,_=>by simp[vX] at h
 | n+1,k,i,h,he=>by
  unfold nC at he;unfold vX at h;cases ho:ops[i]? with
  |none=>rw[ho] at h;simp at h
  | some o =>
   rw[ho] at h he;simp only[Option.map_some,Option.getD_some] at h he;rw[Array.any_eq_true] at h;rw[Array.all_eq_true] at he;obtain⟨j,hj,h2⟩:=h;have h3:=he j hj;simp only[Bool.and_eq_true,Bool.or_eq_true] at h2;obtain⟨hb,h4⟩:=h2;simp only[hb,Bool.not_true,Bool.false_or] at h3;rcases h4 with h4|h4
   ·have:o.after[j].on=k:=by simpa using h4
    rw[←this];exact h3
   ·exact ancP hc n k _ h4 (hc _ h3)
theorem filter_one {i:Nat}:∀{l:List Nat},l.Nodup→i∈l→(l.filter fun j=>j != i).length+1=l.length
 | x::l,hn,h=>by
  obtain⟨h1,h2⟩:=List.nodup_cons.1 hn;by_cases e:x=i
  ·subst e
   have:(l.filter fun j=>j != x)=l:=List.filter_eq_self.2 fun a ha=>by
    have:a≠x:=fun e=>h1 (e ▸ ha);simpa using this
   simp[this]
  ·have hi:i∈l:=by simpa[Ne.symm e] using h
   have:=filter_one h2 hi;have hx:(x != i)=true:=by simpa using e
   rw[List.filter_cons,if_pos hx,List.length_cons,List.length_cons];omega
section
variable [Envs]
variable {P:Program}{nt:Nat}{Q:Exit→Act→World→Prop}
end
theorem aII (ops:Array Oper):∀(fuel:Nat) (listed:Array Bool) (L:List Nat),L∈vP ops fuel listed→∀i,i∈L→i<ops.size
 | 0,listed,L,h,i,hi=>by
  rw[vP,List.mem_singleton] at h;subst h;cases hi
 | fuel+1,listed,L,h,i,hi=>by
  rw[vP] at h;generalize hrs:((List.range ops.size).filter fun i=>!listed.getD i true&&((ops[i]?).map (·.after.all fun e=>!Region.binds .any e||listed.getD e.on false)).getD false)=rs at h;cases rs with
  |nil=>rw[List.mem_singleton] at h;subst h;cases hi
  | cons x xs =>
   simp only[List.mem_flatMap,List.mem_map] at h;obtain⟨k,hk,L',hL',rfl⟩:=h;rcases List.mem_cons.1 hi with rfl|hi
   ·rw[←hrs] at hk;exact List.mem_range.1 (List.mem_filter.1 hk).1
   ·exact aII ops fuel _ L' hL' i hi
section
variable [I:Envs]
variable {P:Program}{nt:Nat}{Q:Exit→Act→World→Prop}{a:Act}{w:World}
theorem aA2 (hm:P.follows .mixedOrders=true) (n0 n1:Nat) (deps:List (Nat×Nat)) (OT:List (List Nat)):nE P (drI P n0 n1 deps OT):=by
 intro C id ops aops fl K Q σ a w S ρ κ hd;refine pF hm C id ops aops fl K Q σ a w S ρ κ ?_;unfold drI at hd;split at hd
 ·cases hd
 ·exact hd
end
variable {P:Program}{nt:Nat}{Q:Exit→Act→World→Prop}{a:Act}{w:World}
variable {I:Envs}{C1:Ctx}{σ:St}{S:Nat→Prop}
end
section
section
variable [Envs]
variable {P:Program}
theorem yQ.alloc (w:World) (o:Obj):yQ w (w.alloc o):=
 ⟨by show w.heap.size≤(w.heap.push o).size;simp,fun b hb=>by show(w.heap.push o)[b]? = _;simp[Array.getElem?_push,Nat.ne_of_lt hb],rfl,rfl⟩
open Go.RowKit in
theorem yQ.of_below {w w':World} (h:Below w.heap.size w w'):yQ w w':=⟨h.size,h.block,h.os,h.output⟩
end
end
section
section
variable [Envs]
variable {P:Program}
open Go.RowKit
theorem aGU {l:List (List AV)}{i r:Nat} (hi:i<l.length):(l.take i++l.drop (i+1)).getD r []=l.getD (if r<i then r else r+1) []:=by
 have hl:(l.take i).length=i:=by simp;omega
 by_cases h:r<i
 ·rw[if_pos h,List.getD_eq_getElem?_getD,List.getElem?_append_left (by omega),List.getElem?_take,if_pos h,List.getD_eq_getElem?_getD]
 ·rw[if_neg h,List.getD_eq_getElem?_getD,List.getElem?_append_right (by omega),hl,List.getElem?_drop,List.getD_eq_getElem?_getD,show i+1+(r-i)=r+1 by omega]
theorem aD9 {w:World}{x j:Nat}{cs:Array Value}{T:TypeId}{fr:Nat×Nat} (h:w.heap[x]? = some (.cells cs T fr)) (hj:j<cs.size):w.cell? ⟨x,j,none⟩=some (cs.getD j undef):=by
 simp[World.cell?,h,hj]
theorem vY (b:Nat):∀(vs:List Value) (o:Nat) (w:World),(w.setCells b o vs).heap.size=w.heap.size
 | [],_,_=>rfl
 | v::r,o,w=>by
  rw[World.setCells,vY b r];simp[World.setCell]
theorem Fn.of_del {f:FuncId}{k i:Nat}{l:List (List AV)} (hb:yN P f) (hi:i<l.length)
  (h : ∀(w:World) (b cap:Nat) (cs:List Value),cs.length=l.length*k→(∀j u,cs[j]? = some u→w.cell? ⟨b,j,none⟩=some u)→(∀u,u∈cs→u.oneCell'=true)→(∀j,j<cs.length→w.frozen? ⟨b,j,none⟩=false)→l.length≤cap→cap<2 ^ 63→
    Calls P f #[.slice (some ⟨b,0,none⟩) l.length cap,.int .i64 (i:Nat),.int .i64 (i+1:Nat)] w fun e w'=>e=.returned (.slice (some ⟨b,0,none⟩) (l.length-1) cap)∧∃q zs,zs.length=k∧w'=((w.drewN q).setCells b (i*k) (cs.drop ((i+1)*k))).setCells b ((l.length-1)*k) zs) :
  Fn P f [.arr k l false] [.loc (.b 0) 0 l.length,.v (.int .i64 (i:Nat)),.v (.int .i64 (i+1:Nat))] (.sl k (l.take i++l.drop (i+1))) [none]:=by
 refine⟨hb,fun S w ρ κ vs hok hfz hvs hargs=>?_⟩;have hH:Hn ([Blk.arr k l false].map some) (.b 0)=some (.arr k l false):=rfl;obtain⟨hrow,hblk⟩:=hok.blk (.b 0) _ hH;have h0:=j5 (hargs 0 (by show 0<3;omega)) k l false hH;have h1:vs.getD 1 undef=.int .i64 (i:Nat):=dO (hargs 1 (by show 1<3;omega));have h2:vs.getD 2 undef=.int .i64 (i+1:Nat):=dO (hargs 2 (by show 2<3;omega));obtain⟨_,base,cap,hv0,hc1,hc2,hbase,_⟩:=h0;have hpos:0<l.length:=by omega
 rcases hblk with⟨_,rfl⟩|⟨x,cs,T,fr,hx,hh,hth,hnS,_,hsz,hlk,hcell⟩
 ·simp at hi
 obtain⟨x',hx',rfl⟩:=hbase hpos;obtain rfl:x=x':=by rw[hx] at hx';exact Option.some.inj hx'
 rw[Nat.zero_mul] at hv0;have hnx:¬S x:=hnS rfl
 have hxl:x<w.heap.size:=by
  rcases Nat.lt_or_ge x w.heap.size with h|h
  ·exact h
  ·rw[Array.getElem?_eq_none h] at hh;cases hh
 have evs:vs=#[.slice (some ⟨x,0,none⟩) l.length cap,.int .i64 (i:Nat),.int .i64 (i+1:Nat)]:=by
  have hs3:vs.size=3:=hvs;apply Array.ext (by simpa using hs3);intro j hj hj2;have hj3:j<3:=by simpa using hj2
  have hj4:j=0∨j=1∨j=2:=by omega
  rcases hj4 with rfl|rfl|rfl
  ·simpa[Array.getD,hs3] using hv0
  ·simpa[Array.getD,hs3] using h1
  ·simpa[Array.getD,hs3] using h2
 subst evs
 let cl:=cs.toList.take (l.length*k)
 have hcl:cl.length=l.length*k:=by simp[cl];omega
 have hcg:∀j,j<l.length*k→cl[j]? = some (cs.getD j undef):=fun j hj=>by
  have:j<cs.size:=by omega
  simp[cl,hj,this]
 have hone:∀j,j<l.length*k→(cs.getD j undef).oneCell'=true:=fun j hj=>by
  have hk0:0<k:=Nat.pos_of_ne_zero fun e=>by subst e;omega
  have:=(hcell (j/k) (j%k) ((Nat.div_lt_iff_lt_mul hk0).2 hj) (Nat.mod_lt _ hk0)).1
  rwa [Nat.mul_comm,Nat.div_add_mod] at this
 refine(h w x cap cl hcl (fun j u hu=>?_) (fun u hu=>?_) (fun j hj=>?_) hc1 hc2).mono ?_
 ·have hj:j<l.length*k:=by rw[←hcl];exact(List.getElem?_eq_some_iff.1 hu).1
  rw[hcg j hj] at hu;obtain rfl:=Option.some.inj hu;exact aD9 hh (by omega)
 ·obtain⟨j,hj,rfl⟩:=List.mem_iff_getElem.1 hu;have hj2:j<l.length*k:=by rw[←hcl];exact hj
  have:=hcg j hj2;rw[List.getElem?_eq_getElem hj] at this;rw[Option.some.inj this];exact hone j hj2
 ·have hj2:j<cs.size:=by omega
  have:=hth j hj2;simp only[World.frozen?,hh];simp only[Bool.and_eq_false_iff,decide_eq_false_iff_not];omega
 rintro e w' ⟨rfl,q,zs,hzs,rfl⟩;generalize hW1:(w.drewN q).setCells x (i*k) (cl.drop ((i+1)*k))=W1;have hs1:W1.heap.size=w.heap.size:=by rw[←hW1,vY];rfl
 have hs2:(W1.setCells x ((l.length-1)*k) zs).heap.size=w.heap.size:=by rw[vY,hs1]
 have hoth:∀b,b<w.heap.size→b≠x→(W1.setCells x ((l.length-1)*k) zs).heap[b]? = w.heap[b]?:=fun b hb hne=>by
  rw[World.heap_setCells_other _ _ _ _ (by rw[hs1];exact hb) hne,←hW1,World.heap_setCells_other _ _ _ _ (by exact hb) hne];rfl
 have hSo:∀b,S b→(W1.setCells x ((l.length-1)*k) zs).heap[b]? = w.heap[b]?:=fun b hb=>hoth b (hok.dom b hb) (fun e=>hnx (e ▸ hb))
 have hin:∀r j,r<l.length-1→j<k→(W1.setCells x ((l.length-1)*k) zs).cell? ⟨x,r*k+j,none⟩=some (cs.getD ((if r<i then r else r+1)*k+j) undef):=fun r j hr hj=>by
  have g1:(r+1)*k≤(l.length-1)*k:=Nat.mul_le_mul_right _ hr;have g2:(l.length-1+1)*k=l.length*k:=by rw[Nat.sub_add_cancel hpos]
  rw[Nat.succ_mul] at g1 g2;rw[World.cell?_setCells_out x _ _ _ _ (fun _ _=>Or.inl (by show r*k+j<_;omega)),←hW1];by_cases hri:r<i
  ·have g3:(r+1)*k≤i*k:=Nat.mul_le_mul_right _ hri;rw[Nat.succ_mul] at g3;rw[if_pos hri,World.cell?_setCells_out x _ _ _ _ (fun _ _=>Or.inl (by show r*k+j<_;omega))];exact aD9 hh (by omega)
  ·have g3:i*k≤r*k:=Nat.mul_le_mul_right _ (by omega);have hdl:(cl.drop ((i+1)*k)).length=l.length*k-(i+1)*k:=by simp[hcl]
   have g4:(i+1)*k=i*k+k:=Nat.succ_mul ..
   have hjj:r*k+j-i*k<(cl.drop ((i+1)*k)).length:=by rw[hdl];omega
   have:=World.cell?_setCells_in x (cl.drop ((i+1)*k)) (i*k) (w.drewN q) (fun t ht=>by
     have g5:(i+1)*k≤l.length*k:=Nat.mul_le_mul_right _ hi;show(w.cell? _).isSome=true
     rw[aD9 hh (by rw[hdl] at ht;omega)];rfl) (r*k+j-i*k) hjj
   rw[show i*k+(r*k+j-i*k)=r*k+j by omega] at this;rw[if_neg hri,this]
   have e1:(cl.drop ((i+1)*k))[r*k+j-i*k]? = some (cs.getD ((r+1)*k+j) undef):=by
    rw[List.getElem?_drop,show(i+1)*k+(r*k+j-i*k)=(r+1)*k+j by rw[Nat.succ_mul,Nat.succ_mul];omega];refine hcg _ ?_;rw[Nat.succ_mul];omega
   rw[List.getElem?_eq_getElem hjj] at e1;exact e1
 have hlen:(l.take i++l.drop (i+1)).length=l.length-1:=by simp;omega
 have hos:(W1.setCells x ((l.length-1)*k) zs).os=w.os:=by rw[World.os_setCells,←hW1,World.os_setCells];rfl
 have hou:(W1.setCells x ((l.length-1)*k) zs).output=w.output:=by rw[World.output_setCells,←hW1,World.output_setCells];rfl
 clear hW1 hs1;generalize W1.setCells x ((l.length-1)*k) zs=W2 at *
 refine⟨_,fun b=>S b∨b=x,fun _=>none,fun _=>0,rfl,⟨⟨fun n b hb=>?_,fun n m y hn=>?_,fun b hb=>?_,hok.env.mono (fun _ h=>.inl h) hSo⟩,by rw[hs2];exact Nat.le_refl _,fun b hb hnm=>hoth b hb fun e=>hnm ⟨0,by simp,by rw[e];exact hx⟩,fun _ h=>.inl h,fun b hb=>hb.elim .inl fun e=>.inr (.inr ⟨0,by simp,by rw[e];exact hx⟩),fun j y hj=>?_,⟨hos,hou⟩,fun j b' hj hb'=>?_⟩,.clo ?_⟩
 ·cases n with
  |b j=>cases j<;>simp[Hn] at hb
  |t s j=>simp[Hn] at hb
 ·cases n with
  |b j=>cases j<;>simp[Hn] at hn
  |t s j=>simp[Hn] at hn
 ·rw[hs2];rcases hb with h|rfl
  ·exact hok.dom b h
  ·exact hxl
 ·cases j<;>simp at hj
 ·obtain rfl:j=0:=by simpa using hj
  simp at hb'
 ·rw[←hlen];refine .sl k _ _ cap x 0 (fun t=>(W2.cell? ⟨x,t,none⟩).getD undef) (fun _=>⟨rfl,.inr rfl⟩) (fun r j hr hj=>?_) (fun r j hr hj=>?_) (fun r j hr hj=>?_) (fun r hr=>?_) ⟨by omega,hc2⟩
  ·rw[hlen] at hr;rw[Nat.zero_add,hin r j hr hj];rfl
  ·rw[hlen] at hr;simp only[hin r j hr hj,Option.getD_some];exact(hcell _ j (by split<;>omega) hj).1
  ·rw[hlen] at hr;simp only[hin r j hr hj,Option.getD_some];rw[aGU hi];exact(hcell _ j (by split<;>omega) hj).2.mono (fun _ h=>.inl h) hSo
  ·rw[hlen] at hr;rw[aGU hi];exact hrow _ (by split<;>omega)
theorem Fn.of_newrow {f:FuncId}{args:List AV}{k:Nat}{l:List (List AV)} (hb:yN P f) (hc:∀y,y∈args→nI y=true) (hrow:∀i,i<l.length→(l.getD i []).length=k)
  (h : ∀(S:Nat→Prop) (w:World) (vs:Array Value),(∀b,S b→b<w.heap.size)→Env S w→vs.size=args.length→(∀j,j<args.length→RC S w (args.getD j .junk) (vs.getD j undef))→
    Calls P f vs w fun e w'=>∃(x cap:Nat) (cs:Array Value) (T:TypeId),e=.returned (.slice (some ⟨x,0,none⟩) l.length cap)∧yQ w w'∧w.heap.size≤x∧w'.heap[x]? = some (.cells cs T (0,0))∧l.length≤cap∧cap<2 ^ 63∧cap*k≤cs.size∧
      ∀i j,i<l.length→j<k→(cs.getD (i*k+j) undef).oneCell'=true∧RC S w ((l.getD i []).getD j .junk) (cs.getD (i*k+j) undef)):Fn P f [] args (.loc (.b 0) 0 l.length) [some (.arr k l false)]:=by
 refine⟨hb,fun S w ρ κ vs hok _ hvs hargs=>(h S w vs hok.dom hok.env hvs fun j hj=>(hargs j hj).closed (hc _ ?_)).mono ?_⟩
 ·rw[List.getD_eq_getElem?_getD,List.getElem?_eq_getElem hj];exact List.getElem_mem _
 ·rintro e w' ⟨x,cap,cs,T,rfl,hg,hx,hh,h1,h2,h3,hcell⟩
  have hxl:x<w'.heap.size:=by
   rcases Nat.lt_or_ge x w'.heap.size with h|h
   ·exact h
   ·rw[Array.getElem?_eq_none h] at hh;cases hh
  have hSo:∀b,S b→w'.heap[b]? = w.heap[b]?:=fun b hb=>hg.old b (hok.dom b hb);have hnx:¬S x:=fun hs=>by have:=hok.dom x hs;omega
  have h4:l.length*k≤cs.size:=Nat.le_trans (Nat.mul_le_mul_right _ h1) h3
  have hHn:∀n b,Hn [some (Blk.arr k l false)] n=some b→n=.b 0∧b=.arr k l false:=fun n b hb=>by
   cases n with
   | b j =>
    cases j with
    |zero=>simp[Hn] at hb;exact⟨rfl,hb.symm⟩
    |succ j=>simp[Hn] at hb
   |t s j=>simp[Hn] at hb
  refine⟨_,S,fun n=>if n=.b 0 then some x else none,fun _=>cs.size,rfl,⟨⟨fun n b hb=>?_,fun n m y hn hm _ _=>?_,fun b hb=>Nat.lt_of_lt_of_le (hok.dom b hb) hg.size,(hg.env hok.dom hok.env).mono (fun _ h=>h) fun _ _=>rfl⟩,hg.size,fun b hb _=>hg.old b hb,fun _ h=>h,fun b hb=>.inl hb,fun j y hj hy=>?_,hg.out,fun j b' hj=>(by simp at hj)⟩,.loc _ _ _ _ ?_⟩
  ·obtain⟨rfl,rfl⟩:=hHn n b hb;exact⟨hrow,.inr ⟨x,cs,T,(0,0),by simp,hh,fun j hj hq=>by have:=hq.2;simp at this,fun _=>hnx,by simp,rfl,h4,fun i j hi hj=>⟨(hcell i j hi hj).1,(hcell i j hi hj).2.mono (fun _ h=>h) hSo⟩⟩⟩
  ·obtain⟨b,hb⟩:=Option.isSome_iff_exists.1 hn;obtain⟨b',hb'⟩:=Option.isSome_iff_exists.1 hm;rw[(hHn n b hb).1,(hHn m b' hb').1]
  ·cases j with
   | zero =>
    simp at hy;exact .inl (by omega)
   |succ j=>simp at hj
  ·intro k' l' z hl;obtain⟨_,e⟩:=hHn _ _ hl;obtain⟨rfl,rfl,rfl⟩:=Blk.arr.inj e;exact⟨by omega,_,cap,rfl,h1,h2,fun _=>⟨x,by simp,by simp⟩,fun _ _=>.inr ⟨x,by simp,rfl,h3⟩⟩
end
end
end Go.Vs
