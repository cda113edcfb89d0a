/- A name is forgotten; append. -/
import Derived.Calls
import Derived.Orders
import Derived.Still
import Derived.Laws.Sem
import Derived.Laws.Cells
import Derived.Laws.Slices
import GoSem.Dispatch
import Derived.Laws.StructEq
import Derived.Laws.World
import Derived.Laws.MakeOwn
import Derived.Laws.Append
import Derived.Laws.AppendOwn
set_option linter.all false
set_option maxHeartbeats 8000000
namespace Go.Vs
section
class Envs where
 l:List (Nat×(Option Obj→Prop))
def envs [Envs]:List (Nat×(Option Obj→Prop)):=Envs.l
end
section
variable [Envs]
inductive Name where
 |b (j:Nat)
 |t (slot j:Nat)
 deriving DecidableEq
inductive AV where
 |v (x:Value)
 |sl (k:Nat) (l:List (List AV))
 |ro (c:List AV)
 |loc (n:Name) (off len:Nat)
 |ptr (n:Name) (e c:Nat)
 |fn (f:FuncId) (caps:List AV)
 |agg (c:List AV)
 |tup (c:List AV)
 |junk
 deriving Inhabited
inductive Blk where
 |var (c:List AV) (fz:Bool)
 |arr (k:Nat) (l:List (List AV)) (fz:Bool)
def Blk.k:Blk→Nat
 |.var _ _=>0
 |.arr k _ _=>k
def Blk.fz:Blk→Bool
 |.var _ z=>z
 |.arr _ _ z=>z
def Blk.same:Blk→Blk→Prop
 |.var c _,.var c' _=>c.length=c'.length
 |.arr k l _,.arr k' l' _=>k=k'∧l.length=l'.length
 |_,_=>False
theorem Blk.same_refl (b:Blk):b.same b:=by cases b<;>simp[Blk.same]
theorem Blk.same_trans {a b c:Blk} (h:a.same b) (h':b.same c):a.same c:=by
 cases a<;>cases b<;>cases c<;>simp_all [Blk.same]
theorem Blk.same_k {a b:Blk} (h:a.same b):a.k=b.k:=by
 cases a<;>cases b<;>simp_all [Blk.same,Blk.k]
inductive RC (S:Nat→Prop) (w:World):AV→Value→Prop
 |v (x:Value):RC S w (.v x) x
 | sl (k:Nat) (l:List (List AV)) (base:Option Addr) (cap x off:Nat) (xs:Nat→Value)
   (hb:l≠[]→base=some ⟨x,off,none⟩∧S x)
   (hc:∀i j,i<l.length→j<k→w.cell? ⟨x,off+(i*k+j),none⟩=some (xs (i*k+j)))
   (ho:∀i j,i<l.length→j<k→(xs (i*k+j)).oneCell'=true)
   (hr:∀i j,i<l.length→j<k→RC S w ((l.getD i []).getD j .junk) (xs (i*k+j)))
   (hk:∀i,i<l.length→(l.getD i []).length=k)
   (hcap:l.length≤cap∧cap<2 ^ 63):RC S w (.sl k l) (.slice base l.length cap)
 | ro (c:List AV) (x off:Nat) (xs:Nat→Value) (hS:S x)
   (hc:∀j,j<c.length→w.cell? ⟨x,off+j,none⟩=some (xs j))
   (ho:∀j,j<c.length→(xs j).oneCell'=true)
   (hr:∀j,j<c.length→RC S w (c.getD j .junk) (xs j)):RC S w (.ro c) (.pointer (some ⟨x,off,none⟩))
 | fn (f:FuncId) (c:List AV) (vs:Array Value) (hl:c.length=vs.size)
   (hr:∀j,j<c.length→RC S w (c.getD j .junk) (vs.getD j undef)):RC S w (.fn f c) (.func (.func f) #[] vs)
 | agg (c:List AV) (vs:Array Value) (hl:c.length=vs.size)
   (hr:∀j,j<c.length→RC S w (c.getD j .junk) (vs.getD j undef)):RC S w (.agg c) (.agg vs)
 | tup (c:List AV) (vs:Array Value) (hl:c.length=vs.size)
   (hr:∀j,j<c.length→RC S w (c.getD j .junk) (vs.getD j undef)):RC S w (.tup c) (.tuple vs)
theorem cell?_of_block {w w':World}{b off:Nat} (h:w'.heap[b]? = w.heap[b]?):w'.cell? ⟨b,off,none⟩=w.cell? ⟨b,off,none⟩:=by
 simp[World.cell?,h]
theorem RC.mono {S S':Nat→Prop}{w w':World} (hS:∀b,S b→S' b) (hw:∀b,S b→w'.heap[b]? = w.heap[b]?) {x:AV}{v:Value} (h:RC S w x v):RC S' w' x v:=by
 induction h with
 |v x=>exact .v x
 | sl k l base cap x off xs hb hc ho hr hk hcap ih =>
  by_cases hl:l=[]
  ·subst hl;exact .sl k [] base cap x off xs (by simp) (by simp) (by simp) (by simp) (by simp) hcap
  ·refine .sl k l base cap x off xs (fun h=>⟨(hb h).1,hS _ (hb h).2⟩) (fun i j hi hj=>?_) ho ih hk hcap;rw[cell?_of_block (hw _ (hb hl).2)];exact hc i j hi hj
 | ro c x off xs hx hc ho hr ih =>
  refine .ro c x off xs (hS _ hx) (fun j hj=>?_) ho ih;rw[cell?_of_block (hw _ hx)];exact hc j hj
 |fn f c vs hl hr ih=>exact .fn f c vs hl ih
 |agg c vs hl hr ih=>exact .agg c vs hl ih
 |tup c vs hl hr ih=>exact .tup c vs hl ih
mutual
def AV.has (n:Name):AV→Bool
 |.loc m _ _=>decide (m=n)
 |.ptr m _ _=>decide (m=n)
 |.fn _ c=>nH n c
 |.agg c=>nH n c
 |.tup c=>nH n c
 |_=>false
def nH (n:Name):List AV→Bool
 | []=>false
 |x::r=>x.has n||nH n r
end
theorem qM {n:Name}:∀{c:List AV}{j:Nat},nH n c=false→(c.getD j .junk).has n=false
 | [],j,_=>by simp[AV.has]
 |x::r,0,h=>by simp[nH] at h;simpa using h.1
 |x::r,j+1,h=>by simp[nH] at h;simpa using qM (c:=r) (j:=j) h.2
def Blk.has (n:Name):Blk→Bool
 |.var c _=>nH n c
 |.arr _ _ _=>false
/-! ## the open reading -/
def aDC (ρ:Name→Option Nat) (κ:Name→Nat) (h:Name→Option Blk) (n:Name) (off len:Nat) (v:Value):Prop:=
 ∀ k l z,h n=some (.arr k l z)→off+len≤l.length∧∃base cap,v=.slice base len cap∧len≤cap∧cap<2 ^ 63∧
  (0<len→∃x,ρ n=some x∧base=some ⟨x,off*k,none⟩)∧
  (off=0→len=l.length→(ρ n=none∧base=none∧cap=0)∨∃x,ρ n=some x∧base=some ⟨x,0,none⟩∧cap*k≤κ n)
def aFq (ρ:Name→Option Nat) (h:Name→Option Blk) (n:Name) (e c:Nat) (v:Value):Prop:=
 ∀b,h n=some b→∃x,ρ n=some x∧v=.pointer (some ⟨x,e*b.k+c,none⟩)
inductive RV (S:Nat→Prop) (w:World) (ρ:Name→Option Nat) (κ:Name→Nat) (h:Name→Option Blk):AV→Value→Prop
 |junk (v:Value):RV S w ρ κ h .junk v
 |clo {x:AV}{v:Value} (hx:RC S w x v):RV S w ρ κ h x v
 |loc (n:Name) (off len:Nat) (v:Value) (hv:aDC ρ κ h n off len v):RV S w ρ κ h (.loc n off len) v
 |ptr (n:Name) (e c:Nat) (v:Value) (hv:aFq ρ h n e c v):RV S w ρ κ h (.ptr n e c) v
 | fn (f:FuncId) (c:List AV) (vs:Array Value) (hl:c.length=vs.size)
   (hr:∀j,j<c.length→RV S w ρ κ h (c.getD j .junk) (vs.getD j undef)):RV S w ρ κ h (.fn f c) (.func (.func f) #[] vs)
 | agg (c:List AV) (vs:Array Value) (hl:c.length=vs.size)
   (hr:∀j,j<c.length→RV S w ρ κ h (c.getD j .junk) (vs.getD j undef)):RV S w ρ κ h (.agg c) (.agg vs)
 | tup (c:List AV) (vs:Array Value) (hl:c.length=vs.size)
   (hr:∀j,j<c.length→RV S w ρ κ h (c.getD j .junk) (vs.getD j undef)):RV S w ρ κ h (.tup c) (.tuple vs)
def iN (ρ ρ':Name→Option Nat) (κ κ':Name→Nat) (h h':Name→Option Blk) (n:Name):Prop:=
 ∀b',h' n=some b'→ρ' n=ρ n∧κ' n=κ n∧∃b,h n=some b∧b.same b'
theorem aDC.mono {ρ ρ':Name→Option Nat}{κ κ':Name→Nat}{h h':Name→Option Blk}{n:Name}{off len:Nat}{v:Value}
  (hn:iN ρ ρ' κ κ' h h' n) (hv:aDC ρ κ h n off len v):aDC ρ' κ' h' n off len v:=by
 intro k l z hl;obtain⟨e1,e2,b,hb,hs⟩:=hn _ hl;cases b with
 |var c z'=>simp[Blk.same] at hs
 | arr k' l' z' =>
  simp only[Blk.same] at hs;obtain⟨rfl,hll⟩:=hs;have:=hv _ _ _ hb;rw[e1,e2,←hll];exact this
theorem aFq.mono {ρ ρ':Name→Option Nat}{κ κ':Name→Nat}{h h':Name→Option Blk}{n:Name}{e c:Nat}{v:Value}
  (hn:iN ρ ρ' κ κ' h h' n) (hv:aFq ρ h n e c v):aFq ρ' h' n e c v:=by
 intro b' hb';obtain⟨e1,e2,b,hb,hs⟩:=hn _ hb';obtain⟨x,hx,hv⟩:=hv _ hb;exact⟨x,by rw[e1];exact hx,by rw[←Blk.same_k hs];exact hv⟩
theorem RV.mono {S S':Nat→Prop}{w w':World}{ρ ρ':Name→Option Nat}{κ κ':Name→Nat}{h h':Name→Option Blk}
  (hS:∀b,S b→S' b) (hw:∀b,S b→w'.heap[b]? = w.heap[b]?) {x:AV}{v:Value}
  (hx:RV S w ρ κ h x v) (hn:∀n,x.has n=true→iN ρ ρ' κ κ' h h' n):RV S' w' ρ' κ' h' x v:=by
 have key:∀c:List AV,∀j,j<c.length→∀n,(c.getD j .junk).has n=true→nH n c=true:=by
  intro c j hj n hh;cases hc:nH n c with
  |true=>rfl
  |false=>rw[qM hc] at hh;cases hh
 induction hx with
 |junk v=>exact .junk v
 |clo hx=>exact .clo (hx.mono hS hw)
 |loc n off len v hv=>exact .loc n off len v (hv.mono (hn n (by simp[AV.has])))
 |ptr n e c v hv=>exact .ptr n e c v (hv.mono (hn n (by simp[AV.has])))
 |fn f c vs hl hr ih=>exact .fn f c vs hl fun j hj=>ih j hj fun n hh=>hn n (by simpa[AV.has] using key c j hj n hh)
 |agg c vs hl hr ih=>exact .agg c vs hl fun j hj=>ih j hj fun n hh=>hn n (by simpa[AV.has] using key c j hj n hh)
 |tup c vs hl hr ih=>exact .tup c vs hl fun j hj=>ih j hj fun n hh=>hn n (by simpa[AV.has] using key c j hj n hh)
/-! ## the blocks -/
def aJZ (fr:Nat×Nat) (n:Nat):Prop:=∀j,j<n→¬(fr.1≤j∧j<fr.2)
def yR (S:Nat→Prop) (w:World) (ρ:Name→Option Nat) (κ:Name→Nat) (h:Name→Option Blk) (n:Name):Blk→Prop
 | .var c z=>∃x cs T fr,ρ n=some x∧w.heap[x]? = some (.cells cs T fr)∧aJZ fr cs.size∧(z=false→¬S x)∧(z=true→S x)∧cs.size=κ n∧
   c.length≤cs.size∧∀j,j<c.length→(cs.getD j undef).oneCell'=true∧RV S w ρ κ h (c.getD j .junk) (cs.getD j undef)
 | .arr k l z=>(∀i,i<l.length→(l.getD i []).length=k)∧((ρ n=none∧l=[])∨∃x cs T fr,ρ n=some x∧w.heap[x]? = some (.cells cs T fr)∧aJZ fr cs.size∧
     (z=false→¬S x)∧(z=true→S x)∧cs.size=κ n∧l.length*k≤cs.size∧
     ∀i j,i<l.length→j<k→(cs.getD (i*k+j) undef).oneCell'=true∧RC S w ((l.getD i []).getD j .junk) (cs.getD (i*k+j) undef))
def Env (S:Nat→Prop) (w:World):Prop:=∀p,p∈envs→S p.1∧p.2 w.heap[p.1]?
class Tab (g:Nat) (p:Option Obj→Prop) extends Envs where
 has:∀S w,@Env toEnvs S w→S g∧p w.heap[g]?
theorem Env.mono {S S':Nat→Prop}{w w':World} (h:Env S w) (hS:∀b,S b→S' b) (hw:∀b,S b→w'.heap[b]? = w.heap[b]?):Env S' w':=
 fun p hp=>⟨hS _ (h p hp).1,by rw[hw _ (h p hp).1];exact(h p hp).2⟩
structure HOK (S:Nat→Prop) (w:World) (ρ:Name→Option Nat) (κ:Name→Nat) (h:Name→Option Blk):Prop where
 blk:∀n b,h n=some b→yR S w ρ κ h n b
 inj:∀n m x,(h n).isSome→(h m).isSome→ρ n=some x→ρ m=some x→n=m
 dom:∀b,S b→b<w.heap.size
 env:Env S w
theorem yR.mono {S S':Nat→Prop}{w w':World}{ρ ρ':Name→Option Nat}{κ κ':Name→Nat}{h h':Name→Option Blk}{n:Name}{b:Blk}
  (hS:∀b,S b→S' b) (hS':∀x,ρ n=some x→S' x→S x) (hw:∀b,S b→w'.heap[b]? = w.heap[b]?)
  (hb:yR S w ρ κ h n b) (hx:∀x,ρ n=some x→w'.heap[x]? = w.heap[x]?) (e1:ρ' n=ρ n) (e2:κ' n=κ n)
  (hn:∀m,b.has m=true→iN ρ ρ' κ κ' h h' m):yR S' w' ρ' κ' h' n b:=by
 cases b with
 | var c z =>
  obtain⟨x,cs,T,fr,h1,h2,h3,h4,h4',h5,h6,h7⟩:=hb;refine⟨x,cs,T,fr,by rw[e1];exact h1,by rw[hx x h1];exact h2,h3,fun hz hs=>h4 hz (hS' _ h1 hs),fun hz=>hS _ (h4' hz),by rw[e2];exact h5,h6,fun j hj=>⟨(h7 j hj).1,(h7 j hj).2.mono hS hw fun m hm=>hn m ?_⟩⟩;cases hc:nH m c with
  |true=>simp[Blk.has,hc]
  |false=>rw[qM hc] at hm;cases hm
 | arr k l z =>
  obtain⟨h0,h⟩:=hb;refine⟨h0,?_⟩;rcases h with⟨h1,h2⟩|⟨x,cs,T,fr,h1,h2,h3,h4,h4',h5,h6,h7⟩
  ·exact .inl ⟨by rw[e1];exact h1,h2⟩
  ·exact .inr ⟨x,cs,T,fr,by rw[e1];exact h1,by rw[hx x h1];exact h2,h3,fun hz hs=>h4 hz (hS' _ h1 hs),fun hz=>hS _ (h4' hz),by rw[e2];exact h5,h6,fun i j hi hj=>⟨(h7 i j hi hj).1,(h7 i j hi hj).2.mono hS hw⟩⟩
end
section
variable [Envs]
structure FSt where
 s:Nat→AV
 h:Name→Option Blk
structure Ctx where
 nt:Nat
 w0:World
 S0:Nat→Prop
 Mut:Nat→Prop
 ρ0:Nat→Option Nat:=fun _=>none
 κ0:Nat→Nat:=fun _=>0
 h0:Nat→Option Blk:=fun _=>none
structure OK (C:Ctx) (σ:FSt) (a:Act) (w:World) (S:Nat→Prop) (ρ:Name→Option Nat) (κ:Name→Nat):Prop where
 nt:a.tmps.size=C.nt
 defers:a.defers=[]
 slots:∀t,RV S w ρ κ σ.h (σ.s t) (a.tmps.getD t undef)
 hok:HOK S w ρ κ σ.h
 size:C.w0.heap.size≤w.heap.size
 old:∀b,b<C.w0.heap.size→¬C.Mut b→w.heap[b]? = C.w0.heap[b]?
 mine:∀n x,(σ.h n).isSome→ρ n=some x→C.w0.heap.size≤x∨C.Mut x
 S0:∀b,C.S0 b→S b
 Snew:∀b,S b→C.S0 b∨C.w0.heap.size≤b∨C.Mut b
 out:w.os=C.w0.os∧w.output=C.w0.output
 keep:∀j b,σ.h (.b j)=some b→ρ (.b j)=C.ρ0 j∧κ (.b j)=C.κ0 j∧∃b0,C.h0 j=some b0∧b0.same b
def upd (s:Nat→AV) (d:Option Nat) (x:AV):Nat→AV:=
 match d with
 |some d=>fun t=>if t=d then x else s t
 |none=>s
def hput (h:Name→Option Blk) (n:Name) (b:Option Blk):Name→Option Blk:=fun m=>if m=n then b else h m
theorem OK.put {C:Ctx}{σ:FSt}{a:Act}{w:World}{S:Nat→Prop}{ρ:Name→Option Nat}{κ:Name→Nat} (hok:OK C σ a w S ρ κ) {x:AV}{v:Value}
  (hx:RV S w ρ κ σ.h x v) {d:Option Nat} (hd:∀d',d=some d'→d'<C.nt):OK C ⟨upd σ.s d x,σ.h⟩ (a.put d v) w S ρ κ:=by
 cases d with
 |none=>exact hok
 | some d =>
  have hd:=hd d rfl;refine{hok with nt:=by simp[Act.put,hok.nt],defers:=by simp[Act.put,hok.defers],slots:=fun t=>?_};simp only[upd,Act.put];by_cases ht:t=d
  ·subst ht;have:t<a.tmps.size:=by rw[hok.nt];exact hd
   simp only[if_true];have e:(a.tmps.setIfInBounds t v).getD t undef=v:=by simp[this]
   rw[e];exact hx
  ·simp only[ht,if_false]
   have e:(a.tmps.setIfInBounds d v).getD t undef=a.tmps.getD t undef:=by
    simp[Array.getElem?_setIfInBounds_ne (Ne.symm ht)]
   rw[e];exact hok.slots t
def Ext (w w':World):Prop:=w.heap.size≤w'.heap.size∧(∀b,b<w.heap.size→w'.heap[b]? = w.heap[b]?)∧w'.os=w.os∧w'.output=w.output
theorem Ext.refl (w:World):Ext w w:=⟨Nat.le_refl _,fun _ _=>rfl,rfl,rfl⟩
theorem Ext.of_heap {w w':World} (h:w'.heap=w.heap) (h1:w'.os=w.os) (h2:w'.output=w.output):Ext w w':=⟨by rw[h];exact Nat.le_refl _,fun _ _=>by rw[h],h1,h2⟩
theorem Ext.push (w:World) (o:Obj):Ext w {w with heap:=w.heap.push o}:=
 ⟨by simp,fun b hb=>by simp[Array.getElem?_push,Nat.ne_of_lt hb],rfl,rfl⟩
theorem Ext.trans {w w1 w2:World} (h:Ext w w1) (h':Ext w1 w2):Ext w w2:=
 ⟨Nat.le_trans h.1 h'.1,fun b hb=>by rw[h'.2.1 b (Nat.lt_of_lt_of_le hb h.1),h.2.1 b hb],h'.2.2.1.trans h.2.2.1,h'.2.2.2.trans h.2.2.2⟩
theorem iN.refl (ρ:Name→Option Nat) (κ:Name→Nat) (h:Name→Option Blk) (n:Name):iN ρ ρ κ κ h h n:=
 fun b' hb=>⟨rfl,rfl,b',hb,b'.same_refl⟩
theorem HOK.lt {S:Nat→Prop}{w:World}{ρ:Name→Option Nat}{κ:Name→Nat}{h:Name→Option Blk} (hok:HOK S w ρ κ h) {n:Name}{x:Nat}
  (hn:(h n).isSome) (hx:ρ n=some x):x<w.heap.size:=by
 obtain⟨b,hb⟩:=Option.isSome_iff_exists.1 hn;have:=hok.blk n b hb
 have key:∀{x:Nat}{cs:Array Value}{T:TypeId}{fr:Nat×Nat},w.heap[x]? = some (.cells cs T fr)→x<w.heap.size:=by
  intro x cs T fr h;rcases Nat.lt_or_ge x w.heap.size with h'|h'
  ·exact h'
  ·simp[Array.getElem?_eq_none h'] at h
 cases b with
 | var c z =>
  obtain⟨y,cs,T,fr,h1,h2,_⟩:=this;obtain rfl:=Option.some.inj (h1.symm.trans hx);exact key h2
 | arr k l z =>
  obtain⟨_,⟨h1,_⟩|⟨y,cs,T,fr,h1,h2,_⟩⟩:=this
  ·rw[h1] at hx;cases hx
  ·obtain rfl:=Option.some.inj (h1.symm.trans hx);exact key h2
theorem HOK.ext {S:Nat→Prop}{w w':World}{ρ:Name→Option Nat}{κ:Name→Nat}{h:Name→Option Blk} (hok:HOK S w ρ κ h) (he:Ext w w'):HOK S w' ρ κ h where
 blk n b hb:=(hok.blk n b hb).mono (fun _ h=>h) (fun _ _ h=>h) (fun b hb=>he.2.1 b (hok.dom b hb)) (fun x hx=>he.2.1 x (hok.lt (by simp[hb]) hx)) rfl rfl (fun m _=>iN.refl _ _ _ _)
 inj:=hok.inj
 dom b hb:=Nat.lt_of_lt_of_le (hok.dom b hb) he.1
 env:=hok.env.mono (fun _ h=>h) fun b hb=>he.2.1 b (hok.dom b hb)
theorem OK.ext {C:Ctx}{σ:FSt}{a:Act}{w w':World}{S:Nat→Prop}{ρ:Name→Option Nat}{κ:Name→Nat} (hok:OK C σ a w S ρ κ) (he:Ext w w'):OK C σ a w' S ρ κ where
 nt:=hok.nt
 defers:=hok.defers
 slots t:=(hok.slots t).mono (fun _ h=>h) (fun b hb=>he.2.1 b (hok.hok.dom b hb)) (fun n _=>iN.refl _ _ _ _)
 hok:=hok.hok.ext he
 size:=Nat.le_trans hok.size he.1
 old b hb hm:=by rw[he.2.1 b (Nat.lt_of_lt_of_le hb hok.size)];exact hok.old b hb hm
 mine:=hok.mine
 S0:=hok.S0
 Snew:=hok.Snew
 out:=⟨he.2.2.1.trans hok.out.1,he.2.2.2.trans hok.out.2⟩
 keep:=hok.keep
def j3 (n:Name) (σ:FSt):Prop:=(σ.h n=none∧∀j,n≠.b j)∧(∀t,(σ.s t).has n=false)∧∀m b,σ.h m=some b→b.has n=false
theorem OK.add {C:Ctx}{σ:FSt}{a:Act}{w w':World}{S:Nat→Prop}{ρ:Name→Option Nat}{κ:Name→Nat} (hok:OK C σ a w S ρ κ) (he:Ext w w')
  {n:Name} (hf:j3 n σ) {b:Blk}{ox:Option Nat}{kn:Nat} (hox:∀x,ox=some x→w.heap.size≤x)
  (hb:∀ρ' κ' h',ρ' n=ox→κ' n=kn→(∀m,m≠n→iN ρ ρ' κ κ' σ.h h' m)→yR S w' ρ' κ' h' n b) :
  OK C ⟨σ.s,hput σ.h n (some b)⟩ a w' S (fun m=>if m=n then ox else ρ m) (fun m=>if m=n then kn else κ m):=by
 have hn:∀m,m≠n→iN ρ (fun m=>if m=n then ox else ρ m) κ (fun m=>if m=n then kn else κ m) σ.h (hput σ.h n (some b)) m:=by
  intro m hm b' hb';simp only[hput,hm,if_false] at hb'⊢;exact⟨trivial,trivial,b',hb',b'.same_refl⟩
 have hok':=hok.ext he
 have hkeep:∀j c,hput σ.h n (some b) (.b j)=some c→(if Name.b j=n then ox else ρ (.b j))=C.ρ0 j∧(if Name.b j=n then kn else κ (.b j))=C.κ0 j∧∃b0,C.h0 j=some b0∧b0.same c:=by
  intro j c hc;have e:Name.b j≠n:=fun e=>hf.1.2 j e.symm;simp only[hput,e,if_false] at hc⊢;exact hok.keep j c hc
 refine{hok' with slots:=fun t=>?_,hok:=⟨fun m c hc=>?_,fun m m' x h1 h2 h3 h4=>?_,hok'.hok.dom,hok'.hok.env⟩,mine:=fun m x h1 h2=>?_,keep:=hkeep}
 ·refine(hok'.slots t).mono (fun _ h=>h) (fun _ _=>rfl) fun m hm=>hn m ?_;rintro rfl;rw[hf.2.1 t] at hm;cases hm
 ·by_cases hmn:m=n
  ·subst hmn;simp only[hput,if_true] at hc;obtain rfl:=Option.some.inj hc;exact hb _ _ _ (by simp) (by simp) hn
  ·simp only[hput,hmn,if_false] at hc;refine(hok'.hok.blk m c hc).mono (fun _ h=>h) (fun _ _ h=>h) (fun _ _=>rfl) (fun _ _=>rfl) (by simp[hmn]) (by simp[hmn]) fun m' hm'=>hn m' ?_;rintro rfl;rw[hf.2.2 m c hc] at hm';cases hm'
 ·have old:∀m x,m≠n→(hput σ.h n (some b) m).isSome→(if m=n then ox else ρ m)=some x→x<w.heap.size:=by
   intro m x hm h1 h2;simp only[hput,hm,if_false] at h1 h2;exact hok.hok.lt h1 h2
  by_cases e1:m=n<;>by_cases e2:m'=n
  ·rw[e1,e2]
  ·have:=old m' x e2 h2 h4;simp only[e1,if_true] at h3;have:=hox _ h3;omega
  ·have:=old m x e1 h1 h3;simp only[e2,if_true] at h4;have:=hox _ h4;omega
  ·simp only[hput,e1,e2,if_false] at h1 h2 h3 h4;exact hok.hok.inj m m' x h1 h2 h3 h4
 ·by_cases e:m=n
  ·simp only[e,if_true] at h2;exact .inl (Nat.le_trans hok.size (hox _ h2))
  ·simp only[hput,e,if_false] at h1 h2;exact hok.mine m x h1 h2
/-! ## operands -/
def AV.ofValue:Value→AV
 |.agg cs=>.agg (cs.toList.map fun x=>.v x)
 |x=>.v x
def evO (s:Nat→AV):Operand→AV
 |.tmp t=>s t
 |.const v=>.ofValue v
 |.global _=>.junk
 |.func f=>.fn f []
theorem aIH {S:Nat→Prop}{w:World} (cs:Array Value):RC S w (.agg (cs.toList.map fun x=>.v x)) (.agg cs):=by
 refine .agg _ _ (by simp) fun j hj=>?_;simp only[List.length_map,Array.length_toList] at hj;simp[List.getD,hj];exact .v _
theorem OK.ev {C:Ctx}{σ:FSt}{a:Act}{w:World}{S:Nat→Prop}{ρ:Name→Option Nat}{κ:Name→Nat} (hok:OK C σ a w S ρ κ) (x:Operand) :
  RV S w ρ κ σ.h (evO σ.s x) (a.eval x):=by
 cases x with
 |tmp t=>exact hok.slots t
 |const v=>cases v<;>first|exact .clo (aIH _)|exact .clo (.v _)
 |global g=>exact .junk _
 |func f=>exact .fn f [] #[] rfl (by simp)
end
section
variable [Envs]
inductive AOp where
 |mv (x:Operand)
 |pick (c a b:Operand)
 |load (g:Bool) (k:Nat) (a:Operand)
 |fieldAddr (off:Nat) (x:Operand)
 |loadV (g:Bool) (k:Nat) (a:Operand)
 |fieldV (off:Nat) (x:Operand)
 |field (g:Bool) (off k:Nat) (x:Operand)
 |idxSl (k:Nat) (x i:Operand)
 |idxArr (n k:Nat) (x i:Operand)
 |idxAgg (g:Bool) (n k:Nat) (x i:Operand)
 |idxStr (x i:Operand)
 |bin (op:BinOp) (x y:Operand)
 |binS (op:BinOp) (x y:Operand)
 |binB (op:BinOp) (x y:Operand)
 |un (op:UnOp) (x:Operand)
 |conv (k:IntKind) (x:Operand)
 |b2s (x:Operand)
 |eqA (neg:Bool) (ks:List Nat) (x y:Operand)
 |idxB (x y:Operand)
 |len (x:Operand)
 |lenS (x:Operand)
 |lenC (n:Nat)
 |slc (k:Nat) (x:Operand) (lo hi:Option Operand)
 |sstr (x:Operand) (lo hi:Option Operand)
 |nilc (x:Operand)
 |extract (x:Operand) (i:Nat)
 |build (z:List AV) (parts:List (Nat×Nat×Operand))
 |mkfn (f:FuncId) (caps:List Operand)
 |mm (mx:Bool) (x y:Operand)
 |box (x:Operand)
 |alloc (z:List AV)
 |bslice (k n:Nat) (z:List AV) (parts:List (Nat×Operand))
 |mk (k bytes:Nat) (z:List AV) (n:Operand)
 |call (f:Operand) (args:List Operand) (bor:List Nat)
 |store (k:Nat) (a x:Operand)
 |append (k bytes:Nat) (a x:Operand)
 |appendC (k bytes:Nat) (a x:Operand)
 |bsliceC (k n:Nat) (z:List AV) (parts:List (Nat×Operand))
 |clr (k:Nat) (z:List AV) (x:Operand)
 deriving Inhabited
def rD (h:Name→Option Blk):AV→Bool
 |.v x=>x.oneCell'
 |.sl _ _=>true
 |.ro _=>true
 |.fn _ _=>true
 |.loc n _ _=>match h n with|some (.arr _ _ _)=>true|_=>false
 |.ptr n _ _=>(h n).isSome
 |_=>false
def jZ (h:Name→Option Blk):AV→Option (List AV)
 |.agg c=>if c.all (rD h) then some c else none
 |x=>if rD h x then some [x] else none
def AV.mk (g:Bool) (c:List AV):AV:=if g then .agg c else c.headD .junk
def Blk.row:Blk→Nat→List AV
 |.var c _,0=>c
 |.var _ _,_+1=>[]
 |.arr _ l _,e=>l.getD e []
def iM (op:BinOp) (k:IntKind) (a b:Int):Int:=
 let x:=BitVec.ofInt k.bits a
 let y:=BitVec.ofInt k.bits b
 k.wrap (match op with|.and=>x &&& y|.or=>x ||| y|.xor=>x ^^^ y|_=>x &&& ~~~y).toNat
def aFm (op:BinOp) (k k':IntKind) (a b:Int) (K:AV→Prop):Prop:=
 match op with
 |.add=>k=k'∧K (.v (.int k (k.wrap (a+b))))
 |.sub=>k=k'∧K (.v (.int k (k.wrap (a-b))))
 |.mul=>k=k'∧K (.v (.int k (k.wrap (a*b))))
 |.quo=>(k=k'∧b≠0)∧K (.v (.int k (k.wrap (a.tdiv b))))
 |.rem=>(k=k'∧b≠0)∧K (.v (.int k (a.tmod b)))
 |.eql=>k=k'∧K (.v (.bool (a==b)))
 |.neq=>k=k'∧K (.v (.bool (a != b)))
 |.lss=>k=k'∧K (.v (.bool (a<b)))
 |.leq=>k=k'∧K (.v (.bool (a≤b)))
 |.gtr=>k=k'∧K (.v (.bool (a>b)))
 |.geq=>k=k'∧K (.v (.bool (a≥b)))
 |.shl=>0≤b∧K (.v (.int k (k.wrap (a*2 ^ (min b.toNat k.bits)))))
 |.shr=>0≤b∧K (.v (.int k (a.fdiv (2 ^ (min b.toNat k.bits)))))
 |.and=>k=k'∧K (.v (.int k (iM .and k a b)))
 |.or=>k=k'∧K (.v (.int k (iM .or k a b)))
 |.xor=>k=k'∧K (.v (.int k (iM .xor k a b)))
 |.andNot=>k=k'∧K (.v (.int k (iM .andNot k a b)))
def aA4 (op:BinOp) (x y:ByteArray) (K:AV→Prop):Prop:=
 match op with
 |.add=>x.size+y.size≤9223372036854775807∧K (.v (.string (x++y)))
 |.eql=>K (.v (.bool (x.toList==y.toList)))
 |.neq=>K (.v (.bool (!(x.toList==y.toList))))
 |_=>False
def yL (op:BinOp) (x y:Bool) (K:AV→Prop):Prop:=
 match op with
 |.eql=>K (.v (.bool (x==y)))
 |.neq=>K (.v (.bool (!(x==y))))
 |_=>False
def lay:List AV→Nat→List AV→List AV
 |cs,_,[]=>cs
 |cs,o,x::r=>lay (cs.set o x) (o+1) r
def layAll (ev:Operand→AV) (h:Name→Option Blk):List AV→List (Nat×Nat×Operand)→(List AV→Prop)→Prop
 |cs,[],K=>K cs
 | cs,(o,n,x)::r,K=>match jZ h (ev x) with
  |some c=>(c.length=n∧o+n≤cs.length)∧layAll ev h (lay cs o c) r K
  |none=>False
def eqV:Nat→Value→Value→Option Bool
 |0,.int k a,.int k' b=>if k=k' then some (a==b) else none
 |1,.bool a,.bool b=>some (a==b)
 |2,.string a,.string b=>some (a.toList==b.toList)
 |_,_,_=>none
def eqC:List Nat→List AV→List AV→Option Bool
 | [],[],[]=>some true
 | k::ks,.v x::r,.v y::s=>match eqV k x y,eqC ks r s with
  |some a,some b=>some (a&&b)
  |_,_=>none
 |_,_,_=>none
def p8 (k:Nat) (h:Name→Option Blk):AV→Option (List (List AV))
 |.sl k' l=>if k'=k then some l else none
 | .loc n off len=>match h n with
  |some (.arr k' l _)=>if k'=k then some ((l.drop off).take len) else none
  |_=>none
 |.v (.slice none 0 0)=>some []
 |_=>none
inductive Tag {α:Type} (a:α):Type where
 |x
 |y
def Br (b:Bool) (A B:Prop) (_:Tag (A,B)):Prop:=(b=true→A)∧(b=false→B)
theorem aLk {A B:Prop}{t:Tag (A,B)}:Br true A B t↔A:=⟨fun h=>h.1 rfl,fun h=>⟨fun _=>h,fun h=>(by cases h)⟩⟩
theorem aJ4 {A B:Prop}{t:Tag (A,B)}:Br false A B t↔B:=⟨fun h=>h.2 rfl,fun h=>⟨fun h=>(by cases h),fun _=>h⟩⟩
theorem Br.mk {b:Bool}{A B:Prop}{t:Tag (A,B)} (h1:b=true→A) (h2:b=false→B):Br b A B t:=⟨h1,h2⟩
theorem Br.get {b:Bool}{A B:Prop}{t:Tag (A,B)} (h:Br b A B t):(b=true→A)∧(b=false→B):=h
def BrW (b want:Bool) (A B:Prop):Prop:=match want with
 |true=>Br b A B .x
 |false=>Br b B A .x
theorem kD {b want:Bool}{A B:Prop}:BrW b want A B↔(b=want→A)∧(b = !want→B):=by
 cases want
 ·exact⟨fun h=>⟨h.2,h.1⟩,fun h=>⟨h.2,h.1⟩⟩
 ·exact⟨fun h=>⟨h.1,h.2⟩,fun h=>⟨h.1,h.2⟩⟩
def rE:List (List AV)→Option (List Int)
 | []=>some []
 | [.v (.int .u8 n)]::r=>match rE r with
  |some l=>some (n::l)
  |none=>none
 |_=>none
def yE (s:ByteArray) (c:Int):Int:=match(List.range s.size).find? fun i=>s[i]! == c.toNat.toUInt8 with
 |some i=>i
 |none=>-1
def uX (ns:List Int):ByteArray:=⟨(ns.map fun n=>UInt8.ofNat n.toNat).toArray⟩
def rC:AV→Bool
 |.v _=>true
 |_=>false
def rd (ev:Operand→AV) (h:Name→Option Blk) (K:AV→Prop):AOp→Prop
 |.mv x=>K (ev x)
 | .pick c a b=>match ev c with
  |.v (.bool t)=>Br t (K (ev a)) (K (ev b)) .x
  |_=>False
 | .load g k a=>match ev a with
  |.ro c=>k≤c.length∧K (.mk g (c.take k))
  | .ptr n e c=>match h n with
   |some b=>c+k≤(b.row e).length∧K (.mk g (((b.row e).drop c).take k))
   |none=>False
  |_=>False
 | .fieldAddr off x=>match ev x with
  | .ptr n e c=>match h n with
   |some _=>K (.ptr n e (c+off))
   |none=>False
  |.ro c=>off≤c.length∧K (.ro (c.drop off))
  |_=>False
 | .loadV g k a=>match ev a with
  | .ptr n e c=>match h n with
   |some (.var cs z)=>(c+k≤((Blk.var cs z).row e).length∧(!g||((((Blk.var cs z).row e).drop c).take k).all rC)=true)∧K (.mk g ((((Blk.var cs z).row e).drop c).take k))
   |_=>False
  |_=>False
 | .fieldV off x=>match ev x with
  | .ptr n e c=>match h n with
   |some (.var _ _)=>K (.ptr n e (c+off))
   |_=>False
  |_=>False
 | .field g off k x=>match ev x with
  |.agg c=>off+k≤c.length∧K (.mk g ((c.drop off).take k))
  |_=>False
 | .idxSl k x i=>match ev x,ev i with
  |.sl k' l,.v (.int _ i)=>(k'=k∧0≤i∧i<l.length)∧K (.ro (l.getD i.toNat []))
  | .loc n off len,.v (.int _ i)=>match h n with
   |some (.arr k' _ _)=>(k'=k∧0≤i∧i<len)∧K (.ptr n (off+i.toNat) 0)
   |_=>False
  |_,_=>False
 | .idxArr n k x i=>match ev x,ev i with
  |.ro c,.v (.int _ i)=>(0≤i∧i<n∧i.toNat*k≤c.length)∧K (.ro (c.drop (i.toNat*k)))
  | .ptr m e c,.v (.int _ i)=>match h m with
   |some _=>(0≤i∧i<n)∧K (.ptr m e (c+i.toNat*k))
   |none=>False
  |_,_=>False
 | .idxAgg g n k x i=>match ev x,ev i with
  |.agg c,.v (.int _ i)=>(0≤i∧i<n∧i.toNat*k+k≤c.length)∧K (.mk g ((c.drop (i.toNat*k)).take k))
  |_,_=>False
 | .idxStr x i=>match ev x,ev i with
  |.v (.string s),.v (.int _ i)=>(0≤i∧i<s.size)∧K (.v (.int .u8 (s.data.toList.getD i.toNat 0).toNat))
  |_,_=>False
 | .bin op x y=>match ev x,ev y with
  |.v (.int k a),.v (.int k' b)=>aFm op k k' a b K
  |_,_=>False
 | .binS op x y=>match ev x,ev y with
  |.v (.string a),.v (.string b)=>aA4 op a b K
  |_,_=>False
 | .binB op x y=>match ev x,ev y with
  |.v (.bool a),.v (.bool b)=>yL op a b K
  |_,_=>False
 | .un op x=>match op,ev x with
  |.not,.v (.bool b)=>K (.v (.bool (!b)))
  |.neg,.v (.int k n)=>K (.v (.int k (k.wrap (0-n))))
  |.xor,.v (.int k n)=>K (.v (.int k (iM .xor k (if k.signed then -1 else k.max) n)))
  |_,_=>False
 | .conv k x=>match ev x with
  |.v (.int _ n)=>K (.v (.int k (k.wrap n)))
  |_=>False
 | .len x=>match ev x with
  |.sl _ l=>K (.v (.int .i64 l.length))
  | .loc n _ len=>match h n with
   |some (.arr _ _ _)=>K (.v (.int .i64 len))
   |_=>False
  |.v (.slice _ n _)=>K (.v (.int .i64 n))
  |_=>False
 | .lenS x=>match ev x with
  |.v (.string s)=>K (.v (.int .i64 s.size))
  |_=>False
 |.lenC n=>K (.v (.int .i64 n))
 | .slc k x lo hi=>match ev x with
  | .sl k' l =>
   let f:Int→Int→Prop:=fun lo hi=>(k'=k∧0≤lo∧lo≤hi∧hi≤l.length)∧K (.sl k ((l.take hi.toNat).drop lo.toNat))
   match lo.map ev,hi.map ev with
   |none,none=>f 0 l.length
   |some (.v (.int _ lo)),none=>f lo l.length
   |none,some (.v (.int _ hi))=>f 0 hi
   |some (.v (.int _ lo)),some (.v (.int _ hi))=>f lo hi
   |_,_=>False
  | .loc n off len=>match h n with
   | some (.arr k' _ _) =>
    let f:Int→Int→Prop:=fun lo hi=>(k'=k∧0≤lo∧lo≤hi∧hi≤len)∧K (.loc n (off+lo.toNat) (hi-lo).toNat)
    match lo.map ev,hi.map ev with
    |none,none=>f 0 len
    |some (.v (.int _ lo)),none=>f lo len
    |none,some (.v (.int _ hi))=>f 0 hi
    |some (.v (.int _ lo)),some (.v (.int _ hi))=>f lo hi
    |_,_=>False
   |_=>False
  |_=>False
 | .sstr x lo hi=>match ev x with
  | .v (.string s) =>
   let f:Int→Int→Prop:=fun lo hi=>(0≤lo∧lo≤hi∧hi≤s.size)∧K (.v (.string (s.extract lo.toNat hi.toNat)))
   match lo.map ev,hi.map ev with
   |none,none=>f 0 s.size
   |some (.v (.int _ lo)),none=>f lo s.size
   |none,some (.v (.int _ hi))=>f 0 hi
   |some (.v (.int _ lo)),some (.v (.int _ hi))=>f lo hi
   |_,_=>False
  |_=>False
 | .nilc x=>match ev x with
  |.ro c=>K (.ro c)
  | .ptr n e c=>match h n with
   |some _=>K (.ptr n e c)
   |none=>False
  |.fn f c=>K (.fn f c)
  |_=>False
 | .extract x i=>match ev x with
  |.tup c=>i<c.length∧K (c.getD i .junk)
  |_=>False
 |.build z parts=>layAll ev h z parts fun cs=>K (.agg cs)
 |.mkfn f caps=>K (.fn f (caps.map ev))
 | .mm mx x y=>match ev x,ev y with
  |.v (.int k a),.v (.int _ b)=>K (.v (.int k (if mx then(if b>a then b else a) else(if b<a then b else a))))
  |_,_=>False
 | .b2s x=>match p8 1 h (ev x) with
  | some l=>match rE l with
   |some ns=>K (.v (.string (uX ns)))
   |none=>False
  |none=>False
 | .eqA neg ks x y=>match ev x,ev y with
  | .agg c,.agg c'=>match eqC ks c c' with
   |some b=>K (.v (.bool (if neg then !b else b)))
   |none=>False
  |_,_=>False
 | .idxB x y=>match ev x,ev y with
  |.v (.string s),.v (.int .u8 c)=>K (.v (.int .i64 (yE s c)))
  |_,_=>False
 |.box _|.alloc _|.bslice .. | .mk .. | .call .. | .store .. | .append .. | .appendC .. | .bsliceC .. | .clr ..=>False
theorem aID {ev:Operand→AV}{h:Name→Option Blk}{K:AV→Prop}{g:Bool}{k:Nat}{a:Operand} (hv:rd ev h K (.loadV g k a)):rd ev h K (.load g k a):=by
 simp only[rd] at hv;split at hv
 ·rename_i n e c hx;split at hv
  ·rename_i cs z hb;simp only[rd,hx,hb];exact⟨hv.1.1,hv.2⟩
  ·exact hv.elim
 ·exact hv.elim
theorem aHs {ev:Operand→AV}{h:Name→Option Blk}{K:AV→Prop}{off:Nat}{x:Operand} (hv:rd ev h K (.fieldV off x)):rd ev h K (.fieldAddr off x):=by
 simp only[rd] at hv;split at hv
 ·rename_i n e c hx;split at hv
  ·rename_i cs z hb;simp only[rd,hx,hb];exact hv
  ·exact hv.elim
 ·exact hv.elim
/-! ## resolving -/
def kE (P:Program) (t:TypeId):Option Nat:=(P.info? t).map (·.size)
def jA (P:Program) (t:TypeId):Option Bool:=
 match P.underlying t with
 |some (.struct _)|some (.array _ _)=>some true
 |some _=>some false
 |none=>none
def vG (P:Program) (t:TypeId):Option (Bool×Nat):=
 match jA P t,kE P t with
 |some true,some n=>some (true,n)
 |some false,some _=>some (false,1)
 |_,_=>none
theorem mD {P:Program}{t:TypeId}{b:Bool} (h:jA P t=some b) (w:World):(isAgg t).run P w=.ok b w:=by
 unfold jA at h;unfold isAgg underlying;cases hu:P.underlying t with
 |none=>simp[hu] at h
 |some d=>cases d<;>simp_all
theorem run_sizeOf {P:Program}{t:TypeId}{n:Nat} (h:kE P t=some n) (w:World):(sizeOf t).run P w=.ok n w:=by
 unfold kE at h;unfold sizeOf typeInfo;cases hi:P.info? t with
 |none=>simp[hi] at h
 |some i=>simp_all
theorem run_underlying {P:Program}{t:TypeId}{d:TypeDesc} (h:P.underlying t=some d) (w:World):(underlying t).run P w=.ok d w:=by
 unfold underlying;simp[h]
end
section
variable [Envs]
section inv
variable {S:Nat→Prop}{w:World}{ρ:Name→Option Nat}{κ:Name→Nat}{h:Name→Option Blk}{v:Value}
theorem dY {x:Value} (hx:RV S w ρ κ h (.v x) v):v=x:=by
 cases hx with|clo hx=>cases hx;rfl
theorem pU {c:List AV} (hx:RV S w ρ κ h (.ro c) v):RC S w (.ro c) v:=by
 cases hx with|clo hx=>exact hx
theorem sW {k:Nat}{l:List (List AV)} (hx:RV S w ρ κ h (.sl k l) v):RC S w (.sl k l) v:=by
 cases hx with|clo hx=>exact hx
theorem kW {n:Name}{off len:Nat} (hx:RV S w ρ κ h (.loc n off len) v):aDC ρ κ h n off len v:=by
 cases hx with
 |clo hx=>cases hx
 |loc _ _ _ _ hv=>exact hv
theorem eX {n:Name}{e c:Nat} (hx:RV S w ρ κ h (.ptr n e c) v):aFq ρ h n e c v:=by
 cases hx with
 |clo hx=>cases hx
 |ptr _ _ _ _ hv=>exact hv
theorem mX {c:List AV} (hx:RV S w ρ κ h (.agg c) v):∃vs,v=.agg vs∧c.length=vs.size∧∀j,j<c.length→RV S w ρ κ h (c.getD j .junk) (vs.getD j undef):=by
 cases hx with
 |clo hx=>cases hx with|agg _ vs hl hr=>exact⟨vs,rfl,hl,fun j hj=>.clo (hr j hj)⟩
 |agg _ vs hl hr=>exact⟨vs,rfl,hl,hr⟩
theorem aAp {c:List AV} (hx:RV S w ρ κ h (.tup c) v):∃vs,v=.tuple vs∧c.length=vs.size∧∀j,j<c.length→RV S w ρ κ h (c.getD j .junk) (vs.getD j undef):=by
 cases hx with
 |clo hx=>cases hx with|tup _ vs hl hr=>exact⟨vs,rfl,hl,fun j hj=>.clo (hr j hj)⟩
 |tup _ vs hl hr=>exact⟨vs,rfl,hl,hr⟩
theorem aD3 {f:FuncId}{c:List AV} (hx:RV S w ρ κ h (.fn f c) v):∃vs,v=.func (.func f) #[] vs∧c.length=vs.size∧∀j,j<c.length→RV S w ρ κ h (c.getD j .junk) (vs.getD j undef):=by
 cases hx with
 |clo hx=>cases hx with|fn _ _ vs hl hr=>exact⟨vs,rfl,hl,fun j hj=>.clo (hr j hj)⟩
 |fn _ _ vs hl hr=>exact⟨vs,rfl,hl,hr⟩
end inv
theorem cell_of_row {w:World}{x off:Nat}{cs:Array Value}{T:TypeId}{fr:Nat×Nat} (hx:w.heap[x]? = some (.cells cs T fr)) (ho:off<cs.size) :
  w.cell? ⟨x,off,none⟩=some (cs.getD off undef):=by
 simp[World.cell?,hx,ho]
theorem addr_add (x off j:Nat):(⟨x,off,none⟩:Addr).add j=⟨x,off+j,none⟩:=by
 unfold Addr.add;split
 ·subst_vars;rfl
 ·rfl
theorem HOK.cells {S:Nat→Prop}{w:World}{ρ:Name→Option Nat}{κ:Name→Nat}{h:Name→Option Blk} (hok:HOK S w ρ κ h) {n:Name}{b:Blk} (hb:h n=some b)
  {x:Nat} (hx:ρ n=some x) {e j:Nat} (hj:j<(b.row e).length) :
  ∃u,w.cell? ⟨x,e*b.k+j,none⟩=some u∧u.oneCell'=true∧RV S w ρ κ h ((b.row e).getD j .junk) u:=by
 have hk:=hok.blk n b hb;cases b with
 | var c z =>
  obtain⟨y,cs,T,fr,h1,h2,_,_,_,_,h6,h7⟩:=hk;obtain rfl:=Option.some.inj (h1.symm.trans hx);cases e with
  | zero =>
   simp only[Blk.row,Blk.k,Nat.mul_zero,Nat.zero_add] at hj⊢;exact⟨_,cell_of_row h2 (by omega),(h7 j hj).1,(h7 j hj).2⟩
  |succ e=>simp[Blk.row] at hj
 | arr k l z =>
  obtain⟨h0,⟨h1,h2⟩|⟨y,cs,T,fr,h1,h2,_,_,_,_,h6,h7⟩⟩:=hk
  ·rw[h1] at hx;cases hx
  ·obtain rfl:=Option.some.inj (h1.symm.trans hx);simp only[Blk.row,Blk.k] at hj⊢
   have he:e<l.length:=by
    rcases Nat.lt_or_ge e l.length with h'|h'
    ·exact h'
    ·simp[List.getD,List.getElem?_eq_none h'] at hj
   have hjk:j<k:=by rw[←h0 e he];exact hj
   have:e*k+j<cs.size:=by
    have:(e+1)*k≤l.length*k:=Nat.mul_le_mul_right k he;rw[Nat.succ_mul] at this;omega
   exact⟨_,cell_of_row h2 this,(h7 e j he hjk).1,.clo (h7 e j he hjk).2⟩
theorem aAl {P:Program}{T:TypeId}{k:Nat} (h:vG P T=some (false,k)):k=1:=by
 unfold vG at h;split at h<;>simp_all
theorem aBa {P:Program}{T:TypeId}{g:Bool}{k:Nat} (hl:vG P T=some (g,k)) {w:World}{x off:Nat} (f:Nat→Value)
  (hf:∀j,j<k→w.cell? ⟨x,off+j,none⟩=some (f j)) :
  (loadVar T ⟨x,off,none⟩).run P w=.ok (if g then .agg ((List.range k).map f).toArray else f 0) w:=by
 unfold vG at hl;split at hl
 ·rename_i n h1 h2;simp only[Option.some.injEq,Prod.mk.injEq] at hl;obtain⟨rfl,rfl⟩:=hl;simp[loadVar,mD h1,run_sizeOf h2,run_loadCells w ⟨x,off,none⟩ n f (fun j hj=>by rw[addr_add];exact hf j hj)]
 ·rename_i n h1 h2;simp only[Option.some.injEq,Prod.mk.injEq] at hl;obtain⟨rfl,rfl⟩:=hl;have:=hf 0 (by omega);simp only[Nat.add_zero] at this;simp[loadVar,mD h1,this]
 ·cases hl
theorem aGs {S:Nat→Prop}{w:World}{ρ:Name→Option Nat}{κ:Name→Nat}{h:Name→Option Blk}{g:Bool}{k:Nat}{c:List AV}{f:Nat→Value} (hk:g=false→k=1)
  (hc:c.length=k) (hr:∀j,j<k→RV S w ρ κ h (c.getD j .junk) (f j)):RV S w ρ κ h (.mk g c) (if g then .agg ((List.range k).map f).toArray else f 0):=by
 cases g with
 | true =>
  simp only[AV.mk,if_true];refine .agg _ _ (by simp[hc]) fun j hj=>?_
  have:((List.range k).map f).toArray.getD j undef=f j:=by
   have:j<k:=by omega
   simp[this]
  rw[this];exact hr j (by omega)
 | false =>
  obtain rfl:=hk rfl;have:=hr 0 (by omega)
  match c,hc with
  | [x],_=>simpa[AV.mk] using this
def Ans (P:Program) (S:Nat→Prop) (w:World) (ρ:Name→Option Nat) (κ:Name→Nat) (h:Name→Option Blk) (K:AV→Prop) (s:Sem Value):Prop:=
 ∃x v,K x∧s.run P w=.ok v w∧RV S w ρ κ h x v
variable {P:Program}{C:Ctx}{σ:FSt}{a:Act}{w:World}{S:Nat→Prop}{ρ:Name→Option Nat}{κ:Name→Nat}{K:AV→Prop}
theorem aGz (hok:OK C σ a w S ρ κ) {T:TypeId}{g:Bool}{k:Nat} (hl:vG P T=some (g,k)) {x:Operand} (hv:rd (evO σ.s) σ.h K (.load g k x)) :
  Ans P S w ρ κ σ.h K (Instr.loadAt T (a.eval x)):=by
 have hx:=hok.ev x;generalize a.eval x=va at hx⊢;simp only[rd] at hv;split at hv
 ·rename_i c hc;rw[hc] at hx;obtain⟨hk,hK⟩:=hv;cases pU hx with
  | ro _ b off xs hS hcell ho hr =>
   refine⟨_,_,hK,by simp only[Instr.loadAt,Instr.sureAddr,Sem.run_bind,Sem.run_pure,Result.andThen_ok];exact aBa hl xs (fun j hj=>hcell j (by omega)),?_⟩;refine aGs (fun hg=>aAl (hg ▸ hl)) (by simp;omega) fun j hj=>?_;have e:(c.take k).getD j .junk=c.getD j .junk:=by simp[List.getD,hj]
   rw[e];exact .clo (hr j (by omega))
 ·rename_i n e c hc;rw[hc] at hx;split at hv
  ·rename_i b hb;obtain⟨hk,hK⟩:=hv;obtain⟨y,hy,hva⟩:=eX hx b hb;have hcells:=fun j (hj:j<(b.row e).length)=>hok.hok.cells hb hy (e:=e) (j:=j) hj
   let f:Nat→Value:=fun j=>(w.cell? ⟨y,e*b.k+c+j,none⟩).getD undef
   have hf:∀j,j<k→w.cell? ⟨y,e*b.k+c+j,none⟩=some (f j):=fun j hj=>by
    obtain⟨u,hu,_⟩:=hcells (c+j) (by omega);have hu':w.cell? ⟨y,e*b.k+c+j,none⟩=some u:=by rw[←hu,Nat.add_assoc]
    simp only[f,hu',Option.getD_some]
   refine⟨_,_,hK,by subst hva;simp only[Instr.loadAt,Instr.sureAddr,Sem.run_bind,Sem.run_pure,Result.andThen_ok];exact aBa hl f hf,?_⟩;refine aGs (fun hg=>aAl (hg ▸ hl)) (by simp;omega) fun j hj=>?_;obtain⟨u,hu,_,hr⟩:=hcells (c+j) (by omega);have e2:(((b.row e).drop c).take k).getD j .junk=(b.row e).getD (c+j) .junk:=by simp[List.getD,hj]
   have e3:f j=u:=by
    have:=hf j hj;rw[Nat.add_assoc] at this;exact Option.some.inj (this.symm.trans hu)
   rw[e2,e3];exact hr
  ·exact hv.elim
 ·exact hv.elim
theorem aGw {c:List AV}{v:Value}{off:Nat} (ho:off≤c.length) (h:RC S w (.ro c) v):∃x o,v=.pointer (some ⟨x,o,none⟩)∧RC S w (.ro (c.drop off)) (.pointer (some ⟨x,o+off,none⟩)):=by
 cases h with
 | ro _ x o xs hS hc hone hr =>
  refine⟨x,o,rfl,.ro _ x (o+off) (fun j=>xs (off+j)) hS (fun j hj=>?_) (fun j hj=>hone _ (by simp at hj;omega)) fun j hj=>?_⟩
  ·rw[Nat.add_assoc];exact hc _ (by simp at hj;omega)
  ·have:=hr (off+j) (by simp at hj;omega);simpa[List.getD] using this
def yJ (P:Program) (s:TypeId) (i:Nat):Option Field:=
 match P.underlying s with
 |some (.struct fs)=>fs[i]?
 |_=>none
theorem aDQ (hok:OK C σ a w S ρ κ) {s:TypeId}{i:Nat}{f:Field}{n:Nat} (hf:yJ P s i=some f) (hn:kE P f.type=some n) (h0:n≠0) {x:Operand}
  (hv:rd (evO σ.s) σ.h K (.fieldAddr f.offset x)):Ans P S w ρ κ σ.h K (Instr.fieldAt s (a.eval x) i):=by
 have hx:=hok.ev x
 have hrun:∀b o,(Instr.fieldAt s (.pointer (some ⟨b,o,none⟩)) i).run P w=.ok (.pointer (some ⟨b,o+f.offset,none⟩)) w:=by
  intro b o;unfold yJ at hf;split at hf
  ·rename_i fs hu;simp[Instr.fieldAt,run_underlying hu,hf,Instr.sureAddr,fieldPlace,run_sizeOf hn,h0,addr_add]
  ·cases hf
 generalize a.eval x=va at hx⊢;simp only[rd] at hv;split at hv
 ·rename_i m e c hc;rw[hc] at hx;split at hv
  ·rename_i b hb;obtain⟨y,hy,rfl⟩:=eX hx b hb;refine⟨_,_,hv,hrun _ _,.ptr _ _ _ _ fun b' hb'=>?_⟩;rw[hb] at hb';obtain rfl:=Option.some.inj hb';exact⟨y,hy,by rw[Nat.add_assoc]⟩
  ·exact hv.elim
 ·rename_i c hc;rw[hc] at hx;obtain⟨y,o,rfl,hr⟩:=aGw hv.1 (pU hx);exact⟨_,_,hv.2,hrun _ _,.clo hr⟩
 ·exact hv.elim
theorem aIF (hok:OK C σ a w S ρ κ) {s:TypeId}{i:Nat}{f:Field}{n:Nat}{g:Bool} (hf:yJ P s i=some f) (hn:kE P f.type=some n) (hg:jA P f.type=some g) (h1:g=false→n=1)
  {x:Operand} (hv:rd (evO σ.s) σ.h K (.field g f.offset n x)):Ans P S w ρ κ σ.h K (Instr.field s (a.eval x) i):=by
 have hx:=hok.ev x;generalize a.eval x=va at hx⊢;simp only[rd] at hv;split at hv
 ·rename_i c hc;rw[hc] at hx;obtain⟨vs,rfl,hl,hr⟩:=mX hx;unfold yJ at hf;split at hf
  ·rename_i fs hu;obtain⟨hk,hK⟩:=hv;refine⟨_,(if g then .agg ((List.range n).map fun j=>vs.getD (f.offset+j) undef).toArray else vs.getD (f.offset+0) undef),hK,?_,?_⟩
   ·cases g with
    | true =>
     simp only[Instr.field,Sem.run_bind,run_underlying hu,Result.andThen_ok,hf,asAgg,Sem.run_pure,part,mD hg,if_true,run_sizeOf hn];congr 2;apply Array.ext (by simp;omega);intro j h1 h2;simp at h1 h2;simp[show f.offset+j<vs.size by omega]
    | false =>
     have:=h1 rfl;simp[Instr.field,run_underlying hu,hf,asAgg,part,mD hg,show f.offset<vs.size by omega]
   ·refine aGs h1 (by simp;omega) fun j hj=>?_;have:=hr (f.offset+j) (by omega);have e:((c.drop f.offset).take n).getD j .junk=c.getD (f.offset+j) .junk:=by simp[List.getD,hj]
    rw[e];exact this
  ·cases hf
 ·exact hv.elim
theorem aLQ {k:Nat}{l:List (List AV)}{v:Value} (h:RC S w (.sl k l) v) {i:Nat} (hi:i<l.length) :
  ∃x off cap,v=.slice (some ⟨x,off,none⟩) l.length cap∧RC S w (.ro (l.getD i [])) (.pointer (some ⟨x,off+i*k,none⟩)):=by
 cases h with
 | sl _ _ base cap x off xs hb hc ho hr hk hcap =>
  have hne:l≠[]:=by rintro rfl;simp at hi
  obtain⟨rfl,hS⟩:=hb hne;refine⟨x,off,cap,rfl,.ro _ x _ (fun j=>xs (i*k+j)) hS (fun j hj=>?_) (fun j hj=>ho i j hi (by rw[←hk i hi];exact hj)) fun j hj=>hr i j hi (by rw[←hk i hi];exact hj)⟩;rw[Nat.add_assoc];exact hc i j hi (by rw[←hk i hi];exact hj)
theorem aIE (hok:OK C σ a w S ρ κ) {t e:TypeId}{k:Nat} (hu:P.underlying t=some (.slice e)) (hk:kE P e=some k) {x i:Operand}
  (hv:rd (evO σ.s) σ.h K (.idxSl k x i)):Ans P S w ρ κ σ.h K (Instr.indexAt t (a.eval x) (a.eval i)):=by
 have hx:=hok.ev x;have hi:=hok.ev i;generalize a.eval x=va at hx⊢;generalize a.eval i=vi at hi⊢;simp only[rd] at hv;split at hv
 ·rename_i k' l kk n hc hn;rw[hc] at hx;rw[hn] at hi;obtain rfl:=dY hi;obtain⟨⟨rfl,h0,h1⟩,hK⟩:=hv;obtain⟨y,off,cap,rfl,hr⟩:=aLQ (sW hx) (i:=n.toNat) (by omega);refine⟨_,_,hK,?_,.clo hr⟩;simp[Instr.indexAt,asIntOf,run_underlying hu,run_sizeOf hk,h0,h1,addr_add]
 ·rename_i m off len kk n hc hn;rw[hc] at hx;rw[hn] at hi;obtain rfl:=dY hi;split at hv
  ·rename_i k' l z hb;obtain⟨⟨rfl,h0,h1⟩,hK⟩:=hv;obtain⟨hle,base,cap,rfl,_,_,hbase,_⟩:=kW hx _ _ _ hb;obtain⟨y,hy,rfl⟩:=hbase (by omega);refine⟨_,.pointer (some ⟨y,off*k'+n.toNat*k',none⟩),hK,?_,.ptr _ _ _ _ fun b' hb'=>?_⟩
   ·simp[Instr.indexAt,asIntOf,run_underlying hu,run_sizeOf hk,h0,h1,addr_add]
   ·rw[hb] at hb';obtain rfl:=Option.some.inj hb';exact⟨y,hy,by simp[Blk.k,Nat.add_mul]⟩
  ·exact hv.elim
 ·exact hv.elim
theorem aHq (hok:OK C σ a w S ρ κ) {t e:TypeId}{n k:Nat} (hu:P.underlying t=some (.array n e)) (hk:kE P e=some k) {x i:Operand}
  (hv:rd (evO σ.s) σ.h K (.idxArr n k x i)):Ans P S w ρ κ σ.h K (Instr.indexAt t (a.eval x) (a.eval i)):=by
 have hx:=hok.ev x;have hi:=hok.ev i;generalize a.eval x=va at hx⊢;generalize a.eval i=vi at hi⊢;simp only[rd] at hv;split at hv
 ·rename_i c kk m hc hn;rw[hc] at hx;rw[hn] at hi;obtain rfl:=dY hi;obtain⟨⟨h0,h1,h2⟩,hK⟩:=hv;obtain⟨y,o,rfl,hr⟩:=aGw h2 (pU hx);refine⟨_,_,hK,?_,.clo hr⟩;simp[Instr.indexAt,asIntOf,run_underlying hu,run_sizeOf hk,h0,h1,addr_add,Instr.sureAddr]
 ·rename_i nm e' c kk m hc hn;rw[hc] at hx;rw[hn] at hi;obtain rfl:=dY hi;split at hv
  ·rename_i b hb;obtain⟨⟨h0,h1⟩,hK⟩:=hv;obtain⟨y,hy,rfl⟩:=eX hx b hb;refine⟨_,.pointer (some ⟨y,e'*b.k+c+m.toNat*k,none⟩),hK,?_,.ptr _ _ _ _ fun b' hb'=>?_⟩
   ·simp[Instr.indexAt,asIntOf,run_underlying hu,run_sizeOf hk,h0,h1,addr_add,Instr.sureAddr]
   ·rw[hb] at hb';obtain rfl:=Option.some.inj hb';exact⟨y,hy,by rw[Nat.add_assoc]⟩
  ·exact hv.elim
 ·exact hv.elim
theorem aHr (hok:OK C σ a w S ρ κ) {t e:TypeId}{n k:Nat}{g:Bool} (hu:P.underlying t=some (.array n e)) (hk:kE P e=some k) (hg:jA P e=some g) (hg1:g=false→k=1) {x i:Operand}
  (hv:rd (evO σ.s) σ.h K (.idxAgg g n k x i)):Ans P S w ρ κ σ.h K (Instr.index t (a.eval x) (a.eval i)):=by
 have hx:=hok.ev x;have hi:=hok.ev i;generalize a.eval x=va at hx⊢;generalize a.eval i=vi at hi⊢;simp only[rd] at hv;split at hv
 ·rename_i c kk m hc hn;rw[hc] at hx;rw[hn] at hi;obtain rfl:=dY hi;obtain⟨⟨h0,h1,h2⟩,hK⟩:=hv;obtain⟨vs,rfl,hl,hr⟩:=mX hx;refine⟨_,(if g then .agg ((List.range k).map fun j=>vs.getD (m.toNat*k+j) undef).toArray else vs.getD (m.toNat*k+0) undef),hK,?_,?_⟩
  ·cases g with
   | true =>
    simp only[Instr.index,asIntOf,Sem.run_bind,Sem.run_pure,run_underlying hu,Result.andThen_ok,h0,h1,and_self,if_true,run_sizeOf hk,part,mD hg];congr 2;apply Array.ext (by simp;omega);intro j h1 h2;simp at h1 h2;simp[show m.toNat*k+j<vs.size by omega]
   | false =>
    have:=hg1 rfl;subst this;have:vs[m.toNat]? = some (vs.getD m.toNat undef):=by simp[show m.toNat<vs.size by omega]
    simp[Instr.index,asIntOf,run_underlying hu,h0,h1,run_sizeOf hk,part,mD hg,show m.toNat<vs.size by omega]
  ·refine aGs hg1 (by simp;omega) fun j hj=>?_;have:=hr (m.toNat*k+j) (by omega);have e:((c.drop (m.toNat*k)).take k).getD j .junk=c.getD (m.toNat*k+j) .junk:=by simp[List.getD,hj]
   rw[e];exact this
 ·exact hv.elim
theorem aHp (hok:OK C σ a w S ρ κ) {t:TypeId} (hu:P.underlying t=some .string) {x i:Operand}
  (hv:rd (evO σ.s) σ.h K (.idxStr x i)):Ans P S w ρ κ σ.h K (Instr.index t (a.eval x) (a.eval i)):=by
 have hx:=hok.ev x;have hi:=hok.ev i;generalize a.eval x=va at hx⊢;generalize a.eval i=vi at hi⊢;simp only[rd] at hv;split at hv
 ·rename_i s kk m hc hn;rw[hc] at hx;rw[hn] at hi;obtain rfl:=dY hi;obtain rfl:=dY hx;obtain⟨⟨h0,h1⟩,hK⟩:=hv;refine⟨_,_,hK,?_,.clo (.v _)⟩;have hlt:m.toNat<s.size:=by omega
  have e:s[m.toNat]? = some (s.data.toList.getD m.toNat 0):=by
   have:m.toNat<s.data.size:=hlt;rw[getElem?_pos s m.toNat hlt];simp;rw[getElem?_pos s.data m.toNat this];rfl
  simp[Instr.index,asIntOf,run_underlying hu,h0,e]
 ·exact hv.elim
end
section
variable [Envs]
variable {P:Program}{C:Ctx}{σ:FSt}{a:Act}{w:World}{S:Nat→Prop}{ρ:Name→Option Nat}{κ:Name→Nat}{K:AV→Prop}
theorem aLN (hok:OK C σ a w S ρ κ) {op:BinOp}{t:TypeId}{x y:Operand}
  (hv:rd (evO σ.s) σ.h K (.bin op x y)):Ans P S w ρ κ σ.h K (do eqGuard op t x y (a.eval x) (a.eval y);binOp op t (a.eval x) (a.eval y)):=by
 have hx:=hok.ev x;have hy:=hok.ev y;generalize a.eval x=va at hx⊢;generalize a.eval y=vb at hy⊢;simp only[rd] at hv;split at hv
 ·rename_i k n k' m hc hn;rw[hc] at hx;rw[hn] at hy;obtain rfl:=dY hx;obtain rfl:=dY hy;have hg:(eqGuard op t x y (.int k n) (.int k' m)).run P w=.ok () w:=by unfold eqGuard;cases op<;>simp
  unfold aFm at hv;cases op<;>simp only at hv
  case shl=>exact⟨_,_,hv.2,by simp[hg,binOp,Op.shift,show ¬m<0 by omega],.clo (.v _)⟩
  case shr=>exact⟨_,_,hv.2,by simp[hg,binOp,Op.shift,show ¬m<0 by omega],.clo (.v _)⟩
  case quo=>obtain⟨⟨rfl,h0⟩,hK⟩:=hv;exact⟨_,_,hK,by simp[hg,binOp,Op.intDiv,h0],.clo (.v _)⟩
  case rem=>obtain⟨⟨rfl,h0⟩,hK⟩:=hv;exact⟨_,_,hK,by simp[hg,binOp,Op.intDiv,h0],.clo (.v _)⟩
  all_goals(obtain⟨rfl,hK⟩:=hv;exact⟨_,_,hK,by simp[hg,binOp,Op.intArith,Op.intCmp,Op.intBits,iM],.clo (.v _)⟩)
 ·exact hv.elim
theorem aKr (hok:OK C σ a w S ρ κ) {op:BinOp}{t:TypeId}{x y:Operand}
  (hv:rd (evO σ.s) σ.h K (.binS op x y)):Ans P S w ρ κ σ.h K (do eqGuard op t x y (a.eval x) (a.eval y);binOp op t (a.eval x) (a.eval y)):=by
 have hx:=hok.ev x;have hy:=hok.ev y;generalize a.eval x=va at hx⊢;generalize a.eval y=vb at hy⊢;simp only[rd] at hv;split at hv
 ·rename_i s s' hc hn;rw[hc] at hx;rw[hn] at hy;obtain rfl:=dY hx;obtain rfl:=dY hy;have hg:(eqGuard op t x y (.string s) (.string s')).run P w=.ok () w:=by unfold eqGuard;cases op<;>simp
  unfold aA4 at hv;cases op<;>simp only at hv
  case add =>
   have hm:IntKind.i64.max=9223372036854775807:=by decide
   exact⟨_,_,hv.2,by simp[hg,binOp,Op.stringOp];omega,.clo (.v _)⟩
  case eql=>exact⟨_,_,hv,by simp[hg,binOp,Op.stringOp],.clo (.v _)⟩
  case neq=>exact⟨_,_,hv,by simp[hg,binOp,Op.stringOp],.clo (.v _)⟩
 ·exact hv.elim
theorem aKs (hok:OK C σ a w S ρ κ) {op:BinOp}{t:TypeId} (hu:P.underlying t=some .bool) {x y:Operand}
  (hv:rd (evO σ.s) σ.h K (.binB op x y)):Ans P S w ρ κ σ.h K (do eqGuard op t x y (a.eval x) (a.eval y);binOp op t (a.eval x) (a.eval y)):=by
 have hx:=hok.ev x;have hy:=hok.ev y;generalize a.eval x=va at hx⊢;generalize a.eval y=vb at hy⊢;simp only[rd] at hv;split at hv
 ·rename_i s s' hc hn;rw[hc] at hx;rw[hn] at hy;obtain rfl:=dY hx;obtain rfl:=dY hy;have hg:(eqGuard op t x y (.bool s) (.bool s')).run P w=.ok () w:=by unfold eqGuard;cases op<;>simp
  unfold yL at hv;cases op<;>simp only at hv
  all_goals have he:(Op.equal t (.bool s) (.bool s')).run P w=.ok (s==s') w:=run_equalIn_bool' w 9999 t s s' hu
  case eql=>exact⟨_,_,hv,by simp[hg,binOp,he],.clo (.v _)⟩
  case neq=>exact⟨_,_,hv,by simp[hg,binOp,he],.clo (.v _)⟩
 ·exact hv.elim
theorem rd_un (hok:OK C σ a w S ρ κ) {op:UnOp}{x:Operand}
  (hv:rd (evO σ.s) σ.h K (.un op x)):Ans P S w ρ κ σ.h K (Op.unary op (a.eval x)):=by
 have hx:=hok.ev x;generalize a.eval x=va at hx⊢;simp only[rd] at hv;split at hv
 ·rename_i b hc;rw[hc] at hx;obtain rfl:=dY hx;exact⟨_,_,hv,by simp[Op.unary],.clo (.v _)⟩
 ·rename_i k n hc;rw[hc] at hx;obtain rfl:=dY hx;exact⟨_,_,hv,by simp[Op.unary,Op.intArith],.clo (.v _)⟩
 ·rename_i k n hc;rw[hc] at hx;obtain rfl:=dY hx;exact⟨_,_,hv,by simp[Op.unary,Op.intBits,iM],.clo (.v _)⟩
 ·exact hv.elim
theorem aKq (hok:OK C σ a w S ρ κ) {s d:TypeId}{k k':IntKind} (hs:P.underlying s=some (.int k')) (hd:P.underlying d=some (.int k)) {x:Operand}
  (hv:rd (evO σ.s) σ.h K (.conv k x)):Ans P S w ρ κ σ.h K (convert s d (a.eval x)):=by
 have hx:=hok.ev x;generalize a.eval x=va at hx⊢;simp only[rd] at hv;split at hv
 ·rename_i kk n hc;rw[hc] at hx;obtain rfl:=dY hx;exact⟨_,_,hv,by simp[convert,run_underlying hs,run_underlying hd,Conv.intToInt],.clo (.v _)⟩
 ·exact hv.elim
theorem aLM (hok:OK C σ a w S ρ κ) {t ty e:TypeId} (hu:P.underlying t=some (.slice e)) {x:Operand}
  (hv:rd (evO σ.s) σ.h K (.len x)):Ans P S w ρ κ σ.h K (Builtin.len_ #[t] ty #[a.eval x]):=by
 have hx:=hok.ev x;generalize a.eval x=va at hx⊢
 have hsl:∀b n c,(Builtin.len_ #[t] ty #[.slice b n c]).run P w=.ok (.int .i64 n) w:=by
  intro b n c;simp[Builtin.len_,run_underlying hu,goInt]
 simp only[rd] at hv;split at hv
 ·rename_i k l hc;rw[hc] at hx;cases sW hx with
  |sl _ _ base cap x off xs hb hcc ho hr hk hcap=>exact⟨_,_,hv,hsl _ _ _,.clo (.v _)⟩
 ·rename_i n off len hc;rw[hc] at hx;split at hv
  ·rename_i k l z hb;obtain⟨_,base,cap,rfl,_⟩:=kW hx _ _ _ hb;exact⟨_,_,hv,hsl _ _ _,.clo (.v _)⟩
  ·exact hv.elim
 ·rename_i b n c hc;rw[hc] at hx;obtain rfl:=dY hx;exact⟨_,_,hv,hsl _ _ _,.clo (.v _)⟩
 ·exact hv.elim
theorem aKn (hok:OK C σ a w S ρ κ) {t ty:TypeId} (hu:P.underlying t=some .string) {x:Operand}
  (hv:rd (evO σ.s) σ.h K (.lenS x)):Ans P S w ρ κ σ.h K (Builtin.len_ #[t] ty #[a.eval x]):=by
 have hx:=hok.ev x;generalize a.eval x=va at hx⊢;simp only[rd] at hv;split at hv
 ·rename_i s hc;rw[hc] at hx;obtain rfl:=dY hx;exact⟨_,_,hv,by simp[Builtin.len_,run_underlying hu,goInt],.clo (.v _)⟩
 ·exact hv.elim
theorem aKo (v:Value) {t ty e:TypeId}{n:Nat} (hu:P.underlying t=some (.array n e))
  (hv:rd (evO σ.s) σ.h K (.lenC n)):Ans P S w ρ κ σ.h K (Builtin.len_ #[t] ty #[v]):=by
 refine⟨_,.int .i64 n,hv,?_,.clo (.v _)⟩;simp[Builtin.len_,run_underlying hu,goInt]
theorem aIl {k:Nat}{l:List (List AV)}{v:Value} (h:RC S w (.sl k l) v) {lo hi:Nat} (h1:lo≤hi) (h2:hi≤l.length) :
  ∃ base cap,v=.slice base l.length cap∧l.length≤cap∧
   RC S w (.sl k ((l.take hi).drop lo)) (.slice (if cap=lo then base else base.map (·.add (lo*k))) (hi-lo) (cap-lo)):=by
 cases h with
 | sl _ _ base cap x off xs hb hc ho hr hk hcap =>
  refine⟨base,cap,rfl,hcap.1,?_⟩;have hlen:((l.take hi).drop lo).length=hi-lo:=by simp;omega
  have hget:∀i,i<hi-lo→((l.take hi).drop lo).getD i []=l.getD (lo+i) []:=by
   intro i hi';simp[List.getD,show lo+i<hi by omega]
  have e:∀i j,(lo+i)*k+j=lo*k+(i*k+j):=by intro i j;rw[Nat.add_mul];omega
  have key:=RC.sl (S:=S) (w:=w) k ((l.take hi).drop lo) (if cap=lo then base else base.map (·.add (lo*k))) (cap-lo) x (off+lo*k) (fun m=>xs (lo*k+m))
   (fun hne=>?_) (fun i j hi' hj=>?_) (fun i j hi' hj=>?_) (fun i j hi' hj=>?_) (fun i hi'=>?_) ?_
  ·rw[hlen] at key;exact key
  ·have:0<hi-lo:=by
    rcases Nat.eq_zero_or_pos (hi-lo) with h0|h0
    ·exact absurd (List.length_eq_zero_iff.1 (by rw[hlen];exact h0)) hne
    ·exact h0
   obtain⟨rfl,hS⟩:=hb (by rintro rfl;simp at h2;omega);rw[if_neg (by omega)];exact⟨by simp[addr_add],hS⟩
  ·rw[hlen] at hi';have:=hc (lo+i) j (by omega) hj;rw[e] at this;rw[Nat.add_assoc];exact this
  ·rw[hlen] at hi';have:=ho (lo+i) j (by omega) hj;rw[e] at this;exact this
  ·rw[hlen] at hi';have:=hr (lo+i) j (by omega) hj;rw[e] at this;rw[hget i hi'];exact this
  ·rw[hlen] at hi';rw[hget i hi'];exact hk _ (by omega)
  ·rw[hlen];omega
def Bnd (ov:Option Value) (dflt:Nat) (n:Nat):Prop:=(ov=none∧n=dflt)∨∃k,ov=some (.int k n)
theorem z8 {t e:TypeId}{k:Nat} (hu:P.underlying t=some (.slice e)) (hk:kE P e=some k) {base:Option Addr}{len cap lo hi:Nat}{olo ohi:Option Value}
  (hlo:Bnd olo 0 lo) (hhi:Bnd ohi len hi) (h1:lo≤hi) (h2:hi≤cap) :
  (Instr.sliceAt t (.slice base len cap) olo ohi none).run P w=.ok (.slice (if cap=lo then base else base.map (·.add (lo*k))) (hi-lo) (cap-lo)) w:=by
 rcases hlo with⟨rfl,rfl⟩|⟨kl,rfl⟩<;>rcases hhi with⟨rfl,rfl⟩|⟨kh,rfl⟩ <;>
  simp[Instr.sliceAt,run_underlying hu,Instr.slice,Instr.sliceBounds,Instr.sliceBound,asIntOf,run_sizeOf hk,h1,h2]
theorem aLL (hok:OK C σ a w S ρ κ) {t e:TypeId}{k:Nat} (hu:P.underlying t=some (.slice e)) (hk:kE P e=some k) {x:Operand}{olo ohi:Option Operand}
  (hv:rd (evO σ.s) σ.h K (.slc k x olo ohi)):Ans P S w ρ κ σ.h K (Instr.sliceAt t (a.eval x) (olo.map a.eval) (ohi.map a.eval) none):=by
 have hx:=hok.ev x;generalize a.eval x=va at hx⊢
 have hb:∀(o:Option Operand) (d:Nat),(o=none→Bnd (o.map a.eval) d d)∧(∀kk m,o.map (evO σ.s)=some (.v (.int kk m))→0≤m→Bnd (o.map a.eval) d m.toNat):=by
  intro o d;refine⟨fun h=>by subst h;exact .inl ⟨rfl,rfl⟩,fun kk m h h0=>?_⟩;cases o with
  |none=>simp at h
  | some o =>
   simp only[Option.map_some,Option.some.injEq] at h;have:=hok.ev o;rw[h] at this;refine .inr ⟨kk,?_⟩;simp only[Option.map_some,dY this,Int.toNat_of_nonneg h0]
 simp only[rd] at hv;split at hv
 ·rename_i k' l hc;rw[hc] at hx
  have fin:∀(lo hi:Int),(k'=k∧0≤lo∧lo≤hi∧hi≤l.length)∧K (.sl k ((l.take hi.toNat).drop lo.toNat))→Bnd (olo.map a.eval) 0 lo.toNat→Bnd (ohi.map a.eval) l.length hi.toNat→
    Ans P S w ρ κ σ.h K (Instr.sliceAt t va (olo.map a.eval) (ohi.map a.eval) none):=by
   rintro lo hi ⟨⟨rfl,h0,h1,h2⟩,hK⟩ b1 b2;obtain⟨base,cap,rfl,hcap,hr⟩:=aIl (sW hx) (lo:=lo.toNat) (hi:=hi.toNat) (by omega) (by omega);exact⟨_,_,hK,z8 hu hk b1 b2 (by omega) (by omega),.clo hr⟩
  split at hv
  ·rename_i e1 e2;have n1:olo=none:=by cases olo<;>simp_all
   have n2:ohi=none:=by cases ohi<;>simp_all
   exact fin _ _ hv (by simpa using(hb olo 0).1 n1) (by simpa using(hb ohi l.length).1 n2)
  ·rename_i kk m e1 e2;have n2:ohi=none:=by cases ohi<;>simp_all
   exact fin _ _ hv ((hb olo 0).2 _ _ e1 hv.1.2.1) (by simpa using(hb ohi l.length).1 n2)
  ·rename_i kk m e1 e2;have n1:olo=none:=by cases olo<;>simp_all
   exact fin _ _ hv (by simpa using(hb olo 0).1 n1) ((hb ohi l.length).2 _ _ e2 (by have:=hv.1.2.2.1;omega))
  ·rename_i kk m kk' m' e1 e2;exact fin _ _ hv ((hb olo 0).2 _ _ e1 hv.1.2.1) ((hb ohi l.length).2 _ _ e2 (by have:=hv.1;omega))
  ·exact hv.elim
 ·rename_i n off len hc;rw[hc] at hx;split at hv
  ·rename_i k' l z hbk
   have fin:∀(lo hi:Int),(k'=k∧0≤lo∧lo≤hi∧hi≤len)∧K (.loc n (off+lo.toNat) (hi-lo).toNat)→Bnd (olo.map a.eval) 0 lo.toNat→Bnd (ohi.map a.eval) len hi.toNat→
     Ans P S w ρ κ σ.h K (Instr.sliceAt t va (olo.map a.eval) (ohi.map a.eval) none):=by
    rintro lo hi ⟨⟨rfl,h0,h1,h2⟩,hK⟩ b1 b2;obtain⟨hle,base,cap,rfl,hlc,hcap,hbase,hfull⟩:=kW hx _ _ _ hbk;refine⟨_,_,hK,z8 hu hk b1 b2 (by omega) (by omega),.loc _ _ _ _ fun k2 l2 z2 hb2=>?_⟩;rw[hbk] at hb2;simp only[Option.some.injEq,Blk.arr.injEq] at hb2;obtain⟨rfl,rfl,rfl⟩:=hb2;refine⟨by omega,_,_,by congr 1;omega,by omega,by omega,fun hpos=>?_,fun e1 e2=>?_⟩
    ·obtain⟨y,hy,rfl⟩:=hbase (by omega);rw[if_neg (by omega)];exact⟨y,hy,by simp[addr_add,Nat.add_mul]⟩
    ·have el:lo.toNat=0:=by omega
     have eo:off=0:=by omega
     rcases hfull eo (by omega) with⟨h1,h2,h3⟩|⟨y,hy,hb',hk'⟩
     ·exact .inl ⟨h1,by simp[h2],by omega⟩
     ·refine .inr ⟨y,hy,?_,by rw[el];exact hk'⟩;rw[el,hb'];simp[Addr.add]
   split at hv
   ·rename_i e1 e2;have n1:olo=none:=by cases olo<;>simp_all
    have n2:ohi=none:=by cases ohi<;>simp_all
    exact fin _ _ hv (by simpa using(hb olo 0).1 n1) (by simpa using(hb ohi len).1 n2)
   ·rename_i kk m e1 e2;have n2:ohi=none:=by cases ohi<;>simp_all
    exact fin _ _ hv ((hb olo 0).2 _ _ e1 hv.1.2.1) (by simpa using(hb ohi len).1 n2)
   ·rename_i kk m e1 e2;have n1:olo=none:=by cases olo<;>simp_all
    exact fin _ _ hv (by simpa using(hb olo 0).1 n1) ((hb ohi len).2 _ _ e2 (by have:=hv.1.2.2.1;omega))
   ·rename_i kk m kk' m' e1 e2;exact fin _ _ hv ((hb olo 0).2 _ _ e1 hv.1.2.1) ((hb ohi len).2 _ _ e2 (by have:=hv.1;omega))
   ·exact hv.elim
  ·exact hv.elim
 ·exact hv.elim
theorem aEt {t:TypeId} (hu:P.underlying t=some .string) {s:ByteArray}{lo hi:Nat}{olo ohi:Option Value}
  (hlo:Bnd olo 0 lo) (hhi:Bnd ohi s.size hi) (h1:lo≤hi) (h2:hi≤s.size) :
  (Instr.sliceAt t (.string s) olo ohi none).run P w=.ok (.string (s.extract lo hi)) w:=by
 rcases hlo with⟨rfl,rfl⟩|⟨kl,rfl⟩<;>rcases hhi with⟨rfl,rfl⟩|⟨kh,rfl⟩ <;>
  simp[Instr.sliceAt,run_underlying hu,Instr.slice,Instr.sliceBounds,Instr.sliceBound,asIntOf,h1,h2]
theorem aMj (hok:OK C σ a w S ρ κ) (o:Option Operand) (d:Nat):(o=none→Bnd (o.map a.eval) d d)∧(∀kk m,o.map (evO σ.s)=some (.v (.int kk m))→0≤m→Bnd (o.map a.eval) d m.toNat):=by
 refine⟨fun h=>by subst h;exact .inl ⟨rfl,rfl⟩,fun kk m h h0=>?_⟩;cases o with
 |none=>simp at h
 | some o =>
  simp only[Option.map_some,Option.some.injEq] at h;have:=hok.ev o;rw[h] at this;refine .inr ⟨kk,?_⟩;simp only[Option.map_some,dY this,Int.toNat_of_nonneg h0]
theorem aKk (hok:OK C σ a w S ρ κ) {t:TypeId} (hu:P.underlying t=some .string) {x:Operand}{olo ohi:Option Operand}
  (hv:rd (evO σ.s) σ.h K (.sstr x olo ohi)):Ans P S w ρ κ σ.h K (Instr.sliceAt t (a.eval x) (olo.map a.eval) (ohi.map a.eval) none):=by
 have hx:=hok.ev x;generalize a.eval x=va at hx⊢;have hb:=aMj hok;simp only[rd] at hv;split at hv
 ·rename_i s hc;rw[hc] at hx;obtain rfl:=dY hx
  have fin:∀(lo hi:Int),(0≤lo∧lo≤hi∧hi≤s.size)∧K (.v (.string (s.extract lo.toNat hi.toNat)))→Bnd (olo.map a.eval) 0 lo.toNat→Bnd (ohi.map a.eval) s.size hi.toNat→
    Ans P S w ρ κ σ.h K (Instr.sliceAt t (.string s) (olo.map a.eval) (ohi.map a.eval) none):=by
   rintro lo hi ⟨⟨h0,h1,h2⟩,hK⟩ b1 b2;exact⟨_,_,hK,aEt hu b1 b2 (by omega) (by omega),.clo (.v _)⟩
  split at hv
  ·rename_i e1 e2;have n1:olo=none:=by cases olo<;>simp_all
   have n2:ohi=none:=by cases ohi<;>simp_all
   exact fin _ _ hv (by simpa using(hb olo 0).1 n1) (by simpa using(hb ohi s.size).1 n2)
  ·rename_i kk m e1 e2;have n2:ohi=none:=by cases ohi<;>simp_all
   exact fin _ _ hv ((hb olo 0).2 _ _ e1 hv.1.1) (by simpa using(hb ohi s.size).1 n2)
  ·rename_i kk m e1 e2;have n1:olo=none:=by cases olo<;>simp_all
   exact fin _ _ hv (by simpa using(hb olo 0).1 n1) ((hb ohi s.size).2 _ _ e2 (by have:=hv.1;omega))
  ·rename_i kk m kk' m' e1 e2;exact fin _ _ hv ((hb olo 0).2 _ _ e1 hv.1.1) ((hb ohi s.size).2 _ _ e2 (by have:=hv.1;omega))
  ·exact hv.elim
 ·exact hv.elim
theorem aKl (hok:OK C σ a w S ρ κ) {o:Oper}{x:Operand} (ho:o.op=.nilCheck x) (hv:rd (evO σ.s) σ.h K (.nilc x)) :
  ∃x' v,K x'∧(execOp a.eval o).run P w=.ok (.value v) w∧RV S w ρ κ σ.h x' v:=by
 have hx:=hok.ev x;simp only[execOp,ho];generalize a.eval x=va at hx⊢;simp only[rd] at hv;split at hv
 ·rename_i c hc;rw[hc] at hx;cases pU hx with
  |ro _ y off xs hS hcell hone hr=>exact⟨_,_,hv,rfl,hx⟩
 ·rename_i n e c hc;rw[hc] at hx;split at hv
  ·rename_i b hb;obtain⟨y,hy,rfl⟩:=eX hx _ hb;exact⟨_,_,hv,rfl,hx⟩
  ·exact hv.elim
 ·rename_i f c hc;rw[hc] at hx;obtain⟨vs,rfl,_⟩:=aD3 hx;exact⟨_,_,hv,rfl,hx⟩
 ·exact hv.elim
theorem aFH (hok:OK C σ a w S ρ κ) {x:Operand}{i:Nat} (hv:rd (evO σ.s) σ.h K (.extract x i)):Ans P S w ρ κ σ.h K (Instr.extract (a.eval x) i):=by
 have hx:=hok.ev x;generalize a.eval x=va at hx⊢;simp only[rd] at hv;split at hv
 ·rename_i c hc;rw[hc] at hx;obtain⟨vs,rfl,hl,hr⟩:=aAp hx;refine⟨_,_,hv.2,?_,hr i hv.1⟩;simp[Instr.extract,show i<vs.size by have:=hv.1;omega]
 ·exact hv.elim
theorem aKm (hok:OK C σ a w S ρ κ) {f:FuncId}{caps:List Operand} (hv:rd (evO σ.s) σ.h K (.mkfn f caps)) :
  Ans P S w ρ κ σ.h K (Instr.makeFunc (.func f) #[] (caps.toArray.map a.eval)):=by
 refine⟨_,_,hv,rfl,.fn _ _ _ (by simp) fun j hj=>?_⟩;simp only[List.length_map] at hj;have e1:(caps.map (evO σ.s)).getD j .junk=evO σ.s caps[j]:=by simp[List.getD,hj]
 have e2:(caps.toArray.map a.eval).getD j undef=a.eval caps[j]:=by simp[hj]
 rw[e1,e2];exact hok.ev _
theorem aLt (hok:OK C σ a w S ρ κ) {mx:Bool}{t:Array TypeId}{T:TypeId}{x y:Operand} (hv:rd (evO σ.s) σ.h K (.mm mx x y)) :
  Ans P S w ρ κ σ.h K (if mx then Builtin.max_ t T #[a.eval x,a.eval y] else Builtin.min_ t T #[a.eval x,a.eval y]):=by
 have hx:=hok.ev x;have hy:=hok.ev y;generalize a.eval x=va at hx⊢;generalize a.eval y=vb at hy⊢;simp only[rd] at hv;split at hv
 ·rename_i k n k' m hc hn;rw[hc] at hx;rw[hn] at hy;obtain rfl:=dY hx;obtain rfl:=dY hy;cases mx
  ·exact⟨_,_,hv,by simp[Builtin.min_,Builtin.min2],.clo (.v _)⟩
  ·exact⟨_,_,hv,by simp[Builtin.max_,Builtin.max2],.clo (.v _)⟩
 ·exact hv.elim
end
section
variable [Envs]
variable {P:Program}{C:Ctx}{σ:FSt}{a:Act}{w:World}{S:Nat→Prop}{ρ:Name→Option Nat}{κ:Name→Nat}{K:AV→Prop}{h:Name→Option Blk}
theorem x9 {x:AV}{v:Value} (hx:RV S w ρ κ h x v) (h1:rD h x=true):v.oneCell'=true:=by
 cases x with
 |v y=>obtain rfl:=dY hx;exact h1
 |sl k l=>cases sW hx;rfl
 |ro c=>cases pU hx;rfl
 |fn f c=>obtain⟨vs,rfl,_⟩:=aD3 hx;rfl
 | loc n off len =>
  simp only[rD] at h1;split at h1
  ·rename_i hb;obtain⟨_,base,cap,rfl,_⟩:=kW hx _ _ _ hb;rfl
  ·cases h1
 | ptr n e c =>
  simp only[rD] at h1;obtain⟨b,hb⟩:=Option.isSome_iff_exists.1 h1;obtain⟨y,_,rfl⟩:=eX hx _ hb;rfl
 |agg c=>simp[rD] at h1
 |tup c=>simp[rD] at h1
 |junk=>simp[rD] at h1
def Cells (S:Nat→Prop) (w:World) (ρ:Name→Option Nat) (κ:Name→Nat) (h:Name→Option Blk) (c:List AV) (vs:Array Value):Prop:=
 c.length=vs.size∧∀j,j<c.length→RV S w ρ κ h (c.getD j .junk) (vs.getD j undef)
theorem aCx {x:AV}{v:Value} (hx:RV S w ρ κ h x v) {c:List AV} (hc:jZ h x=some c) :
  Cells S w ρ κ h c v.cells∧(∀j,j<c.length→(v.cells.getD j undef).oneCell'=true):=by
 have single:∀x:AV,(rD h x=true)→RV S w ρ κ h x v→Cells S w ρ κ h [x] v.cells∧(∀j,j < [x].length→(v.cells.getD j undef).oneCell'=true):=by
  intro x h1 hx;have ho:=x9 hx h1;have e:v.cells=#[v]:=by cases v<;>simp_all [Value.cells,Value.oneCell']
  rw[e];refine⟨⟨rfl,fun j hj=>?_⟩,fun j hj=>?_⟩
  ·simp only[List.length_singleton] at hj;obtain rfl:j=0:=by omega
   exact hx
  ·simp only[List.length_singleton] at hj;obtain rfl:j=0:=by omega
   exact ho
 cases x with
 | agg c' =>
  simp only[jZ] at hc;split at hc
  ·rename_i hall;obtain rfl:=Option.some.inj hc;obtain⟨vs,rfl,hl,hr⟩:=mX hx;refine⟨⟨hl,hr⟩,fun j hj=>x9 (hr j hj) ?_⟩;have:=List.all_eq_true.1 hall (c'.getD j .junk) (by simp[List.getD,hj]);exact this
  ·cases hc
 | _ =>
  simp only[jZ] at hc;split at hc
  ·rename_i h1;obtain rfl:=Option.some.inj hc;exact single _ h1 hx
  ·cases hc
theorem lV:∀(xs cs:List AV) (o:Nat),(lay cs o xs).length=cs.length
 | [],_,_=>rfl
 |x::r,cs,o=>by rw[lay,lV r];simp
theorem aAx:∀(xs cs:List AV) (o j:Nat),o+xs.length≤cs.length→(lay cs o xs).getD j .junk=if o≤j∧j<o+xs.length then xs.getD (j-o) .junk else cs.getD j .junk
 | [],cs,o,j,_=>by
  have:¬(o≤j∧j<o+([]:List AV).length):=by simp
  rw[lay,if_neg this]
 | x::r,cs,o,j,h=>by
  rw[lay,aAx r _ _ _ (by simp at h⊢;omega)];simp only[List.length_cons] at h⊢;by_cases h1:o+1≤j∧j<o+1+r.length
  ·rw[if_pos h1,if_pos (by omega)];have:j-o=(j-(o+1))+1:=by omega
   rw[this];simp
  ·rw[if_neg h1];by_cases h2:j=o
   ·subst h2;rw[if_pos (by omega)];have:j<cs.length:=by omega
    simp[List.getD,this]
   ·rw[if_neg (by omega)];simp[List.getD,List.getElem?_set_ne (Ne.symm h2)]
theorem zI:∀(l:List Value) (i o:Nat) (cs:Array Value),o+i+l.length≤cs.size→
  ((l.zipIdx i).foldl (fun cs (p:Value×Nat)=>cs.setIfInBounds (o+p.2) p.1) cs).size=cs.size∧
  ∀j,((l.zipIdx i).foldl (fun cs (p:Value×Nat)=>cs.setIfInBounds (o+p.2) p.1) cs).getD j undef=if o+i≤j∧j<o+i+l.length then l.getD (j-(o+i)) undef else cs.getD j undef
 | [],i,o,cs,_=>⟨rfl,fun j=>by
     have:¬(o+i≤j∧j<o+i+([]:List Value).length):=by simp
     rw[if_neg this];rfl⟩
 | x::r,i,o,cs,h=>by
  simp only[List.length_cons] at h;obtain⟨h1,h2⟩:=zI r (i+1) o (cs.setIfInBounds (o+i) x) (by simp;omega);simp only[List.zipIdx_cons,List.foldl_cons];refine⟨by rw[h1];simp,fun j=>?_⟩;rw[h2 j];simp only[List.length_cons];by_cases h3:o+(i+1)≤j∧j<o+(i+1)+r.length
  ·rw[if_pos h3,if_pos (by omega)];have:j-(o+i)=(j-(o+(i+1)))+1:=by omega
   rw[this];simp
  ·rw[if_neg h3];by_cases h4:j=o+i
   ·subst h4;rw[if_pos (by omega)];simp[show o+i<cs.size by omega]
   ·rw[if_neg (by omega)];simp[Array.getElem?_setIfInBounds_ne (Ne.symm h4)]
theorem getD_toList (vs:Array Value) (j:Nat):vs.toList.getD j undef=vs.getD j undef:=by
 simp[List.getD]
theorem aBF (hok:OK C σ a w S ρ κ) (place:Nat→Option (Nat×Nat)):∀(parts:List (Nat×Operand)) (rp:List (Nat×Nat×Operand)) (cs:List AV) (vs:Array Value) {K:List AV→Prop},
  parts.map (fun p=>(place p.1).map fun q=>(q.1,q.2,p.2))=rp.map some→Cells S w ρ κ σ.h cs vs→layAll (evO σ.s) σ.h cs rp K→
  ∃ cs' vs',K cs'∧Instr.fill place vs (parts.map fun p=>(p.1,a.eval p.2))=some vs'∧Cells S w ρ κ σ.h cs' vs'∧
   ((∀j,j<vs.size→(vs.getD j undef).oneCell'=true)→∀j,j<vs'.size→(vs'.getD j undef).oneCell'=true)
 | [],[],cs,vs,K,_,hc,hK=>⟨cs,vs,hK,rfl,hc,fun h=>h⟩
 | [],_::_,_,_,_,h,_,_=>by simp at h
 |_::_,[],_,_,_,h,_,_=>by simp at h
 | (i,x)::parts,(o,n,y)::rp,cs,vs,K,h,hc,hK=>by
  simp only[List.map_cons,List.cons.injEq] at h;obtain⟨h1,h2⟩:=h;cases hp:place i with
  |none=>rw[hp] at h1;simp at h1
  | some q =>
   rw[hp] at h1;simp only[Option.map_some,Option.some.injEq,Prod.mk.injEq] at h1;obtain⟨rfl,rfl,rfl⟩:=h1;simp only[layAll] at hK;split at hK
   ·rename_i c hcx;obtain⟨⟨hn,hle⟩,hK⟩:=hK;obtain⟨⟨hcl,hcr⟩,hone⟩:=aCx (hok.ev x) hcx;obtain⟨hl,hr⟩:=hc;have hf:=zI (a.eval x).cells.toList 0 q.1 vs (by simp;omega);simp only[Nat.add_zero,Array.length_toList,←hcl] at hf
    have hcells:Cells S w ρ κ σ.h (lay cs q.1 c) (((a.eval x).cells.toList.zipIdx 0).foldl (fun cs (p:Value×Nat)=>cs.setIfInBounds (q.1+p.2) p.1) vs):=by
     refine⟨by rw[lV,hf.1];exact hl,fun j hj=>?_⟩;rw[lV] at hj;rw[aAx _ _ _ _ (by omega),hf.2 j];by_cases hj2:q.1≤j∧j<q.1+c.length
     ·rw[if_pos hj2,if_pos hj2,getD_toList];exact hcr _ (by omega)
     ·rw[if_neg hj2,if_neg hj2];exact hr j hj
    obtain⟨cs',vs',hK',hfill,hc',ho'⟩:=aBF hok place parts rp _ _ h2 hcells hK;refine⟨cs',vs',hK',?_,hc',fun hv=>ho' fun j hj=>?_⟩
    ·have hz:(a.eval x).cells.zipIdx.foldl (fun cs (p:Value×Nat)=>cs.setIfInBounds (q.1+p.2) p.1) vs=((a.eval x).cells.toList.zipIdx 0).foldl (fun cs (p:Value×Nat)=>cs.setIfInBounds (q.1+p.2) p.1) vs:=by
      rw[←Array.foldl_toList,Array.toList_zipIdx]
     simp only[List.map_cons,Instr.fill,hp];rw[if_neg (by simp;omega)];rw[←hfill,←hz]
    ·rw[hf.1] at hj;rw[hf.2 j];by_cases hj2:q.1≤j∧j<q.1+c.length
     ·rw[if_pos hj2,getD_toList];exact hone _ (by omega)
     ·rw[if_neg hj2];exact hv j hj
   ·exact hK.elim
end
section
variable [Envs]
mutual
def o7:AV→Bool
 |.v _=>true
 |.sl _ _=>true
 |.ro _=>true
 |.fn _ c=>sV c
 |.agg c=>sV c
 |.tup c=>sV c
 |_=>false
def sV:List AV→Bool
 | []=>true
 |x::r=>o7 x&&sV r
end
theorem mE:∀{c:List AV}{j:Nat},sV c=true→j<c.length→o7 (c.getD j .junk)=true
 | [],_,_,hj=>by simp at hj
 |x::r,0,h,_=>by simp[sV] at h;simpa using h.1
 |x::r,j+1,h,hj=>by simp[sV] at h;simpa using mE (c:=r) (j:=j) h.2 (by simpa using hj)
variable {P:Program}{C:Ctx}{σ:FSt}{a:Act}{w:World}{S:Nat→Prop}{ρ:Name→Option Nat}{κ:Name→Nat}{h:Name→Option Blk}
theorem RV.closed {x:AV}{v:Value} (hx:RV S w ρ κ h x v) (hc:o7 x=true):RC S w x v:=by
 induction hx with
 |junk v=>simp[o7] at hc
 |clo hx=>exact hx
 |loc n off len v hv=>simp[o7] at hc
 |ptr n e c v hv=>simp[o7] at hc
 |fn f c vs hl hr ih=>simp only[o7] at hc;exact .fn f c vs hl fun j hj=>ih j hj (mE hc hj)
 |agg c vs hl hr ih=>simp only[o7] at hc;exact .agg c vs hl fun j hj=>ih j hj (mE hc hj)
 |tup c vs hl hr ih=>simp only[o7] at hc;exact .tup c vs hl fun j hj=>ih j hj (mE hc hj)
def rowsOf (k:Nat):Nat→List AV→List (List AV)
 |0,_=>[]
 |m+1,cs=>cs.take k::rowsOf k m (cs.drop k)
def al (ev:Operand→AV) (h:Name→Option Blk) (n:Name) (K:AV→Blk→Prop):AOp→Prop
 | .box x=>match jZ h (ev x) with
  |some c=>K (.ptr n 0 0) (.var c false)
  |none=>False
 |.alloc z=>z.all (fun x=>rD h x&&o7 x)=true∧K (.ptr n 0 0) (.var z false)
 | .bslice k m z parts=>(z.length=k∧m*k≤2 ^ 24∧m≤2 ^ 24∧z.all (rD h)=true)∧layAll ev h (List.flatten (List.replicate m z)) (parts.map fun(i,x)=>(i*k,k,x)) fun cs =>
   sV cs=true∧K (.loc n 0 m) (.arr k (rowsOf k m cs) false)
 | .mk k bytes z x=>match ev x with
  |.v (.int .i64 i)=>(0≤i∧i*bytes≤2 ^ 47∧i<2 ^ 63∧z.length=k∧z.all (fun x=>rD h x&&o7 x)=true)∧K (.loc n 0 i.toNat) (.arr k (List.replicate i.toNat z) false)
  |_=>False
 |_=>False
theorem yG (w:World) (o:Obj):({w with heap:=w.heap.push o}:World).heap[w.heap.size]? = some o:=by simp
theorem OK.addVar (hok:OK C σ a w S ρ κ) {n:Name} (hf:j3 n σ) {c:List AV}{cs:Array Value}{T:TypeId} (hc:Cells S w ρ κ σ.h c cs) (h1:∀j,j<c.length→(cs.getD j undef).oneCell'=true) (hn:nH n c=false) :
  ∃ ρ' κ',OK C ⟨σ.s,hput σ.h n (some (.var c false))⟩ a {w with heap:=w.heap.push (.cells cs T)} S ρ' κ'∧
   RV S {w with heap:=w.heap.push (.cells cs T)} ρ' κ' (hput σ.h n (some (.var c false))) (.ptr n 0 0) (.pointer (some ⟨w.heap.size,0,none⟩)):=by
 have hex:=Ext.push w (.cells cs T);refine⟨_,_,hok.add hex hf (b:=.var c false) (ox:=some w.heap.size) (kn:=cs.size) (fun x hx=>by rw[←Option.some.inj hx];exact Nat.le_refl _) ?_,?_⟩
 ·intro ρ' κ' h' e1 e2 hm;refine⟨w.heap.size,cs,T,(0,0),e1,yG _ _,fun j _ hj=>by omega,fun _ hs=>?_,by simp,e2.symm,by rw[hc.1];exact Nat.le_refl _,fun j hj=>⟨h1 j hj,(hc.2 j hj).mono (fun _ h=>h) (fun b hb=>hex.2.1 b (hok.hok.dom b hb)) fun m hh=>hm m ?_⟩⟩
  ·exact absurd (hok.hok.dom _ hs) (Nat.lt_irrefl _)
  ·rintro rfl;rw[qM hn] at hh;cases hh
 ·refine .ptr _ _ _ _ fun b hb=>?_;simp only[hput,if_true] at hb;obtain rfl:=Option.some.inj hb;exact⟨w.heap.size,by simp,by simp[Blk.k]⟩
theorem OK.addArr (hok:OK C σ a w S ρ κ) {w':World} (hex:Ext w w') {n:Name} (hf:j3 n σ) {k:Nat}{l:List (List AV)}{cs:Array Value}{T:TypeId}{fr:Nat×Nat}{x:Nat} (hxs:w.heap.size≤x) (hx:w'.heap[x]? = some (.cells cs T fr)) (hth:aJZ fr cs.size)
  (hk:∀i,i<l.length→(l.getD i []).length=k) (hsz:l.length*k≤cs.size)
  (hr:∀i j,i<l.length→j<k→(cs.getD (i*k+j) undef).oneCell'=true∧RC S w ((l.getD i []).getD j .junk) (cs.getD (i*k+j) undef)) {cap:Nat} (hcap:l.length≤cap∧cap<2 ^ 63∧cap*k≤cs.size) :
  ∃ ρ' κ',OK C ⟨σ.s,hput σ.h n (some (.arr k l false))⟩ a w' S ρ' κ'∧
   RV S w' ρ' κ' (hput σ.h n (some (.arr k l false))) (.loc n 0 l.length) (.slice (some ⟨x,0,none⟩) l.length cap):=by
 refine⟨_,_,hok.add hex hf (b:=.arr k l false) (ox:=some x) (kn:=cs.size) (fun y hy=>by rw[←Option.some.inj hy];exact hxs) ?_,?_⟩
 ·intro ρ' κ' h' e1 e2 hm;refine⟨hk,.inr ⟨x,cs,T,fr,e1,hx,hth,fun _ hs=>?_,by simp,e2.symm,hsz,fun i j hi hj=>⟨(hr i j hi hj).1,(hr i j hi hj).2.mono (fun _ h=>h) fun b hb=>hex.2.1 b (hok.hok.dom b hb)⟩⟩⟩;have:=hok.hok.dom _ hs;omega
 ·refine .loc _ _ _ _ fun k' l' z hb=>?_;simp only[hput,if_true,Option.some.injEq,Blk.arr.injEq] at hb;obtain⟨rfl,rfl,rfl⟩:=hb;exact⟨by omega,_,_,rfl,hcap.1,hcap.2.1,fun _=>⟨x,by simp,by simp⟩,fun _ _=>.inr ⟨x,by simp,rfl,by simpa using hcap.2.2⟩⟩
def Made (P:Program) (C:Ctx) (σ:FSt) (a:Act) (w:World) (S:Nat→Prop) (n:Name) (K:AV→Blk→Prop) (s:Sem Value):Prop:=
 ∃x b v w',K x b∧s.run P w=.ok v w'∧(j3 n σ→b.has n=false→∃ρ' κ',OK C ⟨σ.s,hput σ.h n (some b)⟩ a w' S ρ' κ'∧RV S w' ρ' κ' (hput σ.h n (some b)) x v)
variable {K:AV→Blk→Prop}{n:Name}
theorem aMo (hok:OK C σ a w S ρ κ) {T:TypeId}{x:Operand} (hv:al (evO σ.s) σ.h n K (.box x)):Made P C σ a w S n K (Instr.box T (a.eval x)):=by
 have hx:=hok.ev x;generalize a.eval x=va at hx⊢;simp only[al] at hv;split at hv
 ·rename_i c hc;obtain⟨hcs,h1⟩:=aCx hx hc;refine⟨_,_,.pointer (some ⟨w.heap.size,0,none⟩),{w with heap:=w.heap.push (.cells va.cells T)},hv,?_,fun hf hn=>?_⟩
  ·simp[Instr.box,newVar,newRow]
  ·exact hok.addVar hf hcs h1 (by simpa[Blk.has] using hn)
 ·exact hv.elim
def zOf (P:Program) (t:TypeId):Option (Array Value):=match P.info? t with|some i=>i.zero.map (·.cells)|none=>none
theorem zZ {t:TypeId}{z:Array Value} (h:zOf P t=some z) (w:World):∃v,(zeroValue t).run P w=.ok v w∧v.cells=z:=by
 unfold zOf at h;cases hi:P.info? t with
 |none=>simp[hi] at h
 | some i =>
  simp only[hi] at h;cases hz:i.zero with
  |none=>simp[hz] at h
  |some v=>exact⟨v,by simp[zeroValue,typeInfo,hi,hz],by simpa[hz] using h⟩
theorem sO (cs:Array Value):Cells S w ρ κ h (cs.toList.map fun x=>.v x) cs:=by
 refine⟨by simp,fun j hj=>?_⟩;simp only[List.length_map,Array.length_toList] at hj;simp[List.getD,hj];exact .clo (.v _)
theorem aAI {p:AV→Bool}{l:List AV} (h:l.all p=true) {j:Nat} (hj:j<l.length):p (l.getD j .junk)=true:=
 List.all_eq_true.1 h _ (by simp[List.getD,hj])
theorem aJT (hok:OK C σ a w S ρ κ) {T:TypeId}{z:Array Value} (hz:zOf P T=some z) (hv:al (evO σ.s) σ.h n K (.alloc (z.toList.map fun x=>.v x))):Made P C σ a w S n K (Instr.alloc T true (.tuple #[])):=by
 obtain⟨v,hrun,rfl⟩:=zZ hz w;simp only[al] at hv;obtain⟨hall,hK⟩:=hv;refine⟨_,_,.pointer (some ⟨w.heap.size,0,none⟩),{w with heap:=w.heap.push (.cells v.cells T)},hK,?_,fun hf hn=>?_⟩
 ·simp[Instr.alloc,newVar,newRow,hrun]
 ·refine hok.addVar hf (sO _) (fun j hj=>?_) (by simpa[Blk.has] using hn);have:=aAI hall hj;have h2:=(sO (S:=S) (w:=w) (ρ:=ρ) (κ:=κ) (h:=σ.h) v.cells).2 j hj;exact x9 h2 (by simp only[Bool.and_eq_true] at this;exact this.1)
theorem aDn {z:List AV}{k:Nat} (hz:z.length=k):∀(m i:Nat),i<m*k→(List.flatten (List.replicate m z)).getD i .junk=z.getD (i%k) .junk
 |0,i,h=>by omega
 | m+1,i,h=>by
  rw[List.replicate_succ,List.flatten_cons];by_cases hi:i<k
  ·rw[Nat.mod_eq_of_lt hi];simp[List.getD,List.getElem?_append_left (show i<z.length by omega)]
  ·have hk:0<k:=by
    rcases Nat.eq_zero_or_pos k with h0|h0
    ·subst h0;omega
    ·exact h0
   have:i%k=(i-k)%k:=by rw[Nat.mod_eq_sub_mod (by omega)]
   rw[this,←aDn hz m (i-k) (by rw[Nat.succ_mul] at h;omega)];simp[List.getD,List.getElem?_append_right (show z.length≤i by omega),hz]
theorem aBg {z:List AV}{k:Nat} (hz:z.length=k) (m:Nat):(List.flatten (List.replicate m z)).length=m*k:=by
 simp[hz]
theorem jS (k:Nat):∀(m:Nat) (cs:List AV),(rowsOf k m cs).length=m
 |0,_=>rfl
 |m+1,cs=>by simp[rowsOf,jS k m]
theorem wN (k:Nat):∀(m:Nat) (cs:List AV),cs.length=m*k→∀i,i<m→(((rowsOf k m cs).getD i []).length=k∧∀j,j<k→((rowsOf k m cs).getD i []).getD j .junk=cs.getD (i*k+j) .junk)
 |0,_,_,i,h=>by omega
 | m+1,cs,hl,0,_=>by
  rw[Nat.succ_mul] at hl;refine⟨by simp[rowsOf];omega,fun j hj=>?_⟩;simp[rowsOf,List.getD,hj]
 | m+1,cs,hl,i+1,h=>by
  rw[Nat.succ_mul] at hl;obtain⟨h1,h2⟩:=wN k m (cs.drop k) (by simp;omega) i (by omega);refine⟨by simpa[rowsOf] using h1,fun j hj=>?_⟩;have:=h2 j hj;simp only[rowsOf,List.getD_cons_succ,this];simp only[List.getD,List.getElem?_drop];congr 2;rw[Nat.succ_mul];omega
theorem sH (z:Array Value) (m k:Nat) (hz:z.size=k) (j:Nat) (hj:j<m*k):((Array.range (m*k)).map (z[· % z.size]!)).getD j undef=z.getD (j%k) undef:=by
 have hk:0<k:=by
  rcases Nat.eq_zero_or_pos k with h0|h0
  ·subst h0;omega
  ·exact h0
 have h1:j%k<z.size:=by rw[hz];exact Nat.mod_lt _ hk
 simp[hj,hz,getElem!_pos z (j%k) h1,getElem?_pos z (j%k) h1]
theorem aH2 (hok:OK C σ a w S ρ κ) {t e:TypeId}{k m:Nat}{z:Array Value} (hu:P.underlying t=some (.slice e)) (hk:kE P e=some k) (hz:zOf P e=some z) {parts:List (Nat×Operand)}
  (hv:al (evO σ.s) σ.h n K (.bslice k m (z.toList.map fun x=>.v x) parts)):Made P C σ a w S n K (Instr.buildSlice t m (parts.map fun p=>(p.1,a.eval p.2)).toArray):=by
 obtain⟨zv,hrun,rfl⟩:=zZ hz w;simp only[al] at hv;obtain⟨⟨hzk,hmk,hm,hzo⟩,hv⟩:=hv;have hzs:zv.cells.size=k:=by simpa using hzk
 have hc0:Cells S w ρ κ σ.h (List.flatten (List.replicate m (zv.cells.toList.map fun x=>.v x))) ((Array.range (m*k)).map (zv.cells[· % zv.cells.size]!)):=by
  refine⟨by rw[aBg hzk];simp,fun j hj=>?_⟩;rw[aBg hzk] at hj;rw[aDn hzk m j hj,sH _ _ _ hzs _ hj]
  have hk0:0<k:=by
   rcases Nat.eq_zero_or_pos k with h0|h0
   ·subst h0;omega
   ·exact h0
  exact(sO zv.cells).2 _ (by rw[hzk];exact Nat.mod_lt _ hk0)
 obtain⟨cs,vs,⟨hclo,hK⟩,hfill,hcs,hone⟩:=aBF hok (fun i=>some (i*k,k)) parts _ _ _ (by simp) hc0 hv
 have hlen:cs.length=m*k:=by
  have hfl:∀(parts:List (Nat×Value)) (c c':Array Value),Instr.fill (fun i=>some (i*k,k)) c parts=some c'→c'.size=c.size:=by
   intro parts
   induction parts with
   |nil=>intro c c' h;simp[Instr.fill] at h;rw[h]
   | cons p r ih =>
    intro c c' h;simp only[Instr.fill] at h;split at h
    ·cases h
    ·rename_i hcond;have:=ih _ _ h;rw[this]
     have hz2:p.2.cells.zipIdx.foldl (fun cs (q:Value×Nat)=>cs.setIfInBounds (p.1*k+q.2) q.1) c=((p.2.cells.toList.zipIdx 0).foldl (fun cs (q:Value×Nat)=>cs.setIfInBounds (p.1*k+q.2) q.1) c):=by
      rw[←Array.foldl_toList,Array.toList_zipIdx]
     have:=(zI p.2.cells.toList 0 (p.1*k) c (by simp at hcond⊢;omega)).1;rw[←hz2] at this;exact this
  have:=hfl _ _ _ hfill;rw[hcs.1,this];simp
 have hone':=hone (fun j hj=>by
   simp only[Array.size_map,Array.size_range] at hj;rw[sH _ _ _ hzs _ hj]
   have hk0:0<k:=by
     rcases Nat.eq_zero_or_pos k with h0|h0
     · subst h0;omega
     · exact h0
   have h2:=(sO (S:=S) (w:=w) (ρ:=ρ) (κ:=κ) (h:=σ.h) zv.cells).2 (j%k) (by rw[hzk];exact Nat.mod_lt _ hk0);exact x9 h2 (aAI hzo (by rw[hzk];exact Nat.mod_lt _ hk0)))
 refine⟨_,_,.slice (some ⟨w.heap.size,0,none⟩) m m,{w with heap:=w.heap.push (.cells vs e)},hK,?_,fun hf _=>?_⟩
 ·have hfill':Instr.fill (fun i=>some (i*k,k)) ((Array.range (m*k)).map (fun i=>(if m*k=0 then #[] else zv.cells)[i%(if m*k=0 then(#[]:Array Value) else zv.cells).size]!)) (parts.map fun p=>(p.1,a.eval p.2))=some vs:=by
   have hr0:Array.range 0=#[]:=rfl;by_cases h0:m*k=0
   ·rw[←hfill];simp[h0,hr0]
   ·rw[←hfill];simp[h0]
  have hn:¬(2 ^ 24<m*k):=by omega
  by_cases h0:m*k=0
  ·simp only[h0,if_true] at hfill';simp[Instr.buildSlice,run_underlying hu,run_sizeOf hk,h0,newRow];simp at hfill';rw[hfill'];simp
  ·simp only[h0,if_false] at hfill';have:¬16777216<m*k:=by omega
   simp[Instr.buildSlice,run_underlying hu,run_sizeOf hk,newRow,hrun,this];rw[if_neg h0,hfill'];simp
 ·have key:=hok.addArr (w':={w with heap:=w.heap.push (.cells vs e)}) (Ext.push w _) hf (k:=k) (l:=rowsOf k m cs) (cs:=vs) (T:=e) (fr:=(0,0)) (x:=w.heap.size) (cap:=m) (Nat.le_refl _) (yG _ _) (fun j _ hj=>by omega)
   (fun i hi=>(wN k m cs hlen i (by rwa [jS] at hi)).1) (by rw[jS,←hcs.1,hlen];exact Nat.le_refl _) (fun i j hi hj=>?_) ⟨by rw[jS];exact Nat.le_refl _,by omega,by rw[←hcs.1,hlen];exact Nat.le_refl _⟩
  ·rw[jS] at key;exact key
  ·rw[jS] at hi
   have hlt:i*k+j<m*k:=by
    have:(i+1)*k≤m*k:=Nat.mul_le_mul_right k hi;rw[Nat.succ_mul] at this;omega
   refine⟨hone' _ (by rw[←hcs.1,hlen];exact hlt),?_⟩;rw[(wN k m cs hlen i hi).2 j hj];exact(hcs.2 _ (by rw[hlen];exact hlt)).closed (mE hclo (by rw[hlen];exact hlt))
theorem al_mk (hok:OK C σ a w S ρ κ) {t e:TypeId}{i:TypeInfo}{zv:Value} (hu:P.underlying t=some (.slice e)) (hi:P.info? e=some i) (hz:i.zero=some zv) {x:Operand}
  (hv:al (evO σ.s) σ.h n K (.mk i.size i.bytes (zv.cells.toList.map fun x=>.v x) x)):Made P C σ a w S n K (Instr.makeSlice t (a.eval x) (a.eval x)):=by
 have hx:=hok.ev x;generalize a.eval x=va at hx⊢;simp only[al] at hv;split at hv
 ·rename_i m hc;rw[hc] at hx;obtain rfl:=dY hx;obtain⟨⟨h0,h1,h2,h3,hall⟩,hK⟩:=hv;have hzs:zv.cells.size=i.size:=by simpa using h3
  have hrun:=run_make (P:=P) w t e i zv hu hi hz .i64 .i64 m m h0 (by omega) (by rw[Int.mul_comm];omega) (by omega);refine⟨_,_,_,_,hK,hrun,fun hf _=>?_⟩;have hmc:∀j,j<m.toNat*i.size→(madeCells zv.cells (m.toNat*i.size)).getD j undef=zv.cells.getD (j%i.size) undef:=fun j hj=>sH _ _ _ hzs _ hj;have hlen:(List.replicate m.toNat (zv.cells.toList.map fun x=>AV.v x)).length=m.toNat:=by simp
  have hget:∀j,j<m.toNat→(List.replicate m.toNat (zv.cells.toList.map fun x=>AV.v x)).getD j []=(zv.cells.toList.map fun x=>AV.v x):=by
   intro j hj;simp[List.getD,hj]
  have key:=hok.addArr (w':=w.alloc (.cells (madeCells zv.cells (m.toNat*i.size)) e)) (Ext.push w _) hf (k:=i.size) (l:=List.replicate m.toNat (zv.cells.toList.map fun x=>.v x)) (cs:=madeCells zv.cells (m.toNat*i.size)) (T:=e) (fr:=(0,0)) (x:=w.heap.size) (cap:=m.toNat) (Nat.le_refl _) (yG _ _) (fun j _ hj=>by omega)
   (fun j hj=>by rw[hlen] at hj;rw[hget j hj];exact h3) (by rw[hlen,size_madeCells];exact Nat.le_refl _) (fun p j hp hj=>?_) ⟨by rw[hlen];exact Nat.le_refl _,by omega,by rw[size_madeCells];exact Nat.le_refl _⟩
  ·rw[hlen] at key;exact key
  ·rw[hlen] at hp
   have hlt:p*i.size+j<m.toNat*i.size:=by
    have:(p+1)*i.size≤m.toNat*i.size:=Nat.mul_le_mul_right _ hp;rw[Nat.succ_mul] at this;omega
   rw[hmc _ hlt,hget p hp];have e1:(p*i.size+j)%i.size=j:=by rw[Nat.mul_comm,Nat.mul_add_mod,Nat.mod_eq_of_lt hj]
   rw[e1];have hjl:j<(zv.cells.toList.map fun x=>AV.v x).length:=by rw[h3];exact hj
   have h4:=(sO (S:=S) (w:=w) (ρ:=ρ) (κ:=κ) (h:=σ.h) zv.cells).2 j hjl;have h5:=aAI hall hjl;simp only[Bool.and_eq_true] at h5;exact⟨x9 h4 h5.1,h4.closed h5.2⟩
 ·exact hv.elim
end
section
variable [Envs]
variable {P:Program}{C:Ctx}{σ:FSt}{a:Act}{w:World}{S:Nat→Prop}{ρ:Name→Option Nat}{κ:Name→Nat}{h:Name→Option Blk}
def gP (w:World) (x:Nat) (o:Obj):World:={w with heap:=w.heap.setIfInBounds x o}
theorem sG (w:World) (x:Nat) (o:Obj):(gP w x o).heap.size=w.heap.size:=by simp[gP]
theorem l5 (w:World) {x y:Nat} (o:Obj) (hne:y≠x):(gP w x o).heap[y]? = w.heap[y]?:=by
 simp[gP,Array.getElem?_setIfInBounds_ne (Ne.symm hne)]
theorem lt_of_heap {w:World}{x:Nat}{o:Obj} (h:w.heap[x]? = some o):x<w.heap.size:=by
 rcases Nat.lt_or_ge x w.heap.size with h'|h'
 ·exact h'
 ·simp[Array.getElem?_eq_none h'] at h
theorem tF {w:World}{x:Nat}{o':Obj} (o:Obj) (hx:w.heap[x]? = some o'):(gP w x o).heap[x]? = some o:=by
 simp[gP,lt_of_heap hx]
def vW:Array Value→Nat→List Value→Array Value
 |cs,_,[]=>cs
 |cs,o,v::r=>vW (cs.setIfInBounds o v) (o+1) r
theorem iQ:∀(vs:List Value) (cs:Array Value) (o:Nat),(vW cs o vs).size=cs.size
 | [],_,_=>rfl
 |v::r,cs,o=>by rw[vW,iQ r];simp
theorem uN:∀(vs:List Value) (cs:Array Value) (o j:Nat),o+vs.length≤cs.size→(vW cs o vs).getD j undef=if o≤j∧j<o+vs.length then vs.getD (j-o) undef else cs.getD j undef
 | [],cs,o,j,_=>by
  have:¬(o≤j∧j<o+([]:List Value).length):=by simp
  rw[vW,if_neg this]
 | x::r,cs,o,j,h=>by
  simp only[List.length_cons] at h;rw[vW,uN r _ _ _ (by simp;omega)];simp only[List.length_cons];by_cases h1:o+1≤j∧j<o+1+r.length
  ·rw[if_pos h1,if_pos (by omega)];have:j-o=(j-(o+1))+1:=by omega
   rw[this];simp
  ·rw[if_neg h1];by_cases h2:j=o
   ·subst h2;rw[if_pos (by omega)];simp[show j<cs.size by omega]
   ·rw[if_neg (by omega)];simp[Array.getElem?_setIfInBounds_ne (Ne.symm h2)]
theorem aEo {x o:Nat}{cs:Array Value}{T:TypeId}{fr:Nat×Nat} (hx:w.heap[x]? = some (.cells cs T fr)) (v:Value) :
  w.setCell ⟨x,o,none⟩ v=gP w x (.cells (cs.setIfInBounds o v) T fr):=by
 unfold World.setCell gP;congr 1;apply Array.ext_getElem?;intro i;by_cases hi:i=x
 ·subst hi;have hlt:=lt_of_heap hx;have:w.heap[i]=.cells cs T fr:=by simpa[hlt] using hx
  simp[Array.getElem_modify,hlt,this]
 ·simp[Array.getElem?_modify,Array.getElem?_setIfInBounds_ne (Ne.symm hi),Ne.symm hi]
theorem aCJ (w:World) (x:Nat) (o o':Obj):gP (gP w x o) x o'=gP w x o':=by
 unfold gP;simp
theorem mQ {x o:Nat}{T:TypeId}{fr:Nat×Nat}:∀(vs:List Value) (i:Nat) (cs:Array Value) (w:World),w.heap[x]? = some (.cells cs T fr)→aJZ fr cs.size→
  o+i+vs.length≤cs.size→(∀v∈vs,v.oneCell'=true)→(storeCells ⟨x,o,none⟩ vs i).run P w=.ok () (gP w x (.cells (vW cs (o+i) vs) T fr))
 | [],i,cs,w,hx,_,_,_=>by
  have:gP w x (.cells cs T fr)=w:=by
   unfold gP;have hlt:=lt_of_heap hx;have h1:w.heap[x]=.cells cs T fr:=by simpa[hlt] using hx
   congr 1;rw[←h1];apply Array.ext_getElem?;intro j;by_cases hj:j=x
   ·subst hj;simp[hlt]
   ·simp[Array.getElem?_setIfInBounds_ne (Ne.symm hj)]
  simp[storeCells,vW,this]
 | v::r,i,cs,w,hx,ht,hl,h1=>by
  simp only[List.length_cons] at hl;have hcell:w.cell? ⟨x,o+i,none⟩=some (cs.getD (o+i) undef):=cell_of_row hx (by omega)
  have hfr:w.frozen? ⟨x,o+i,none⟩=false:=by
   have:=ht (o+i) (by omega);simp only[World.frozen?,hx];simp only[Bool.and_eq_false_iff,decide_eq_false_iff_not];by_cases h:fr.1≤o+i
   ·exact .inr (fun h'=>this ⟨h,h'⟩)
   ·exact .inl h
  have hs:=run_store P w ⟨x,o+i,none⟩ v .plain (h1 v (by simp));rw[hcell] at hs;simp only[hfr,Bool.false_eq_true,if_false] at hs;rw[aEo hx] at hs;simp only[storeCells,addr_add,Sem.run_bind,hs,Result.andThen_ok];have hx':=tF (.cells (cs.setIfInBounds (o+i) v) T fr) hx;rw[mQ r (i+1) (cs.setIfInBounds (o+i) v) _ hx' (by simpa using ht) (by simp;omega) (fun u hu=>h1 u (by simp[hu])),aCJ];rfl
theorem OK.write (hok:OK C σ a w S ρ κ) {n:Name}{b b':Blk}{x:Nat}{w':World} (hb:σ.h n=some b) (hx:ρ n=some x) (hS:¬S x) (hsz:w'.heap.size=w.heap.size)
  (hw:∀y,y≠x→w'.heap[y]? = w.heap[y]?) (ho:w'.os=w.os∧w'.output=w.output) (hsame:b.same b')
  (hbk:∀h',(∀m,iN ρ ρ κ κ σ.h h' m)→yR S w' ρ κ h' n b'):OK C ⟨σ.s,hput σ.h n (some b')⟩ a w' S ρ κ:=by
 have hn:∀m,iN ρ ρ κ κ σ.h (hput σ.h n (some b')) m:=by
  intro m c hc;by_cases hm:m=n
  ·subst hm;simp only[hput,if_true] at hc;obtain rfl:=Option.some.inj hc;exact⟨rfl,rfl,b,hb,hsame⟩
  ·simp only[hput,hm,if_false] at hc;exact⟨rfl,rfl,c,hc,c.same_refl⟩
 have hSw:∀y,S y→w'.heap[y]? = w.heap[y]?:=fun y hy=>hw y (fun e=>hS (e ▸ hy))
 refine ⟨hok.nt,hok.defers,fun t=>(hok.slots t).mono (fun _ h=>h) hSw fun m _=>hn m,⟨fun m c hc=>?_,fun m m' y h1 h2 h3 h4=>?_,fun y hy=>(by rw[hsz];exact hok.hok.dom y hy),hok.hok.env.mono (fun _ h=>h) hSw⟩,
   (by rw[hsz];exact hok.size),fun y hy hm=>?_,fun m y h1 h2=>?_,hok.S0,hok.Snew,⟨ho.1.trans hok.out.1,ho.2.trans hok.out.2⟩,fun j c hc=>?_⟩
 rotate_right
 ·obtain⟨_,_,c0,h1,h2⟩:=hn (.b j) c hc;obtain⟨e1,e2,b0,h3,h4⟩:=hok.keep j c0 h1;exact⟨e1,e2,b0,h3,Blk.same_trans h4 h2⟩
 ·by_cases hm:m=n
  ·subst hm;simp only[hput,if_true] at hc;obtain rfl:=Option.some.inj hc;exact hbk _ hn
  ·simp only[hput,hm,if_false] at hc;refine(hok.hok.blk m c hc).mono (fun _ h=>h) (fun _ _ h=>h) hSw (fun y hy=>hw y ?_) rfl rfl fun m' _=>hn m';rintro rfl;exact hm (hok.hok.inj m n y (by simp[hc]) (by simp[hb]) hy hx)
 ·have key:∀m,(hput σ.h n (some b') m).isSome→(σ.h m).isSome:=by
   intro m hm';by_cases hm:m=n
   ·subst hm;simp[hb]
   ·simpa[hput,hm] using hm'
  exact hok.hok.inj m m' y (key m h1) (key m' h2) h3 h4
 ·rcases hok.mine n x (by simp[hb]) hx with h|h
  ·rw[hw y (by omega)];exact hok.old y hy hm
  ·rw[hw y (fun e=>hm (e ▸ h))];exact hok.old y hy hm
 ·by_cases hm:m=n
  ·subst hm;exact hok.mine m y (by simp[hb]) h2
  ·simp only[hput,hm,if_false] at h1;exact hok.mine m y h1 h2
def Blk.setRow:Blk→Nat→List AV→Blk
 |.var _ z,_,r=>.var r z
 |.arr k l z,e,r=>.arr k (l.set e r) z
def Blk.okc:Blk→List AV→Bool
 |.var _ _,_=>true
 |.arr _ _ _,c=>sV c
def aAF (l:List (List AV)) (off len:Nat) (z:List AV):List (List AV):=l.take off++(List.replicate len z++l.drop (off+len))
theorem sN {l:List (List AV)}{off len:Nat}{z:List AV} (h:off+len≤l.length):(aAF l off len z).length=l.length:=by simp[aAF];omega
theorem aHY (l:List (List AV)) (off:Nat) (z:List AV):aAF l off 0 z=l:=by simp[aAF]
theorem aDv {l:List (List AV)}{off len:Nat}{z:List AV} (h:off+len≤l.length) (i:Nat):(aAF l off len z).getD i []=if off≤i∧i<off+len then z else l.getD i []:=by
 simp only[aAF,List.getD_eq_getElem?_getD,List.getElem?_append,List.getElem?_take,List.getElem?_replicate,List.getElem?_drop,List.length_take,List.length_replicate];by_cases h1:i<off
 ·rw[if_pos (by omega),if_pos h1,if_neg (by omega)]
 ·rw[if_neg (by omega)];by_cases h2:i<off+len
  ·rw[if_pos (by omega),if_pos (by omega),if_pos (by omega)];rfl
  ·rw[if_neg (by omega),if_neg (by omega),show off+len+(i-min off l.length-len)=i by omega]
def wrC (k:Nat) (z:List AV) (ev:Operand→AV) (h:Name→Option Blk) (X:Operand) (K:(Name→Option Blk)→Prop):Prop:=
 match ev X with
 | .loc n off len=>match h n with
  |some (.arr k' l fz)=>(fz=false∧k'=k∧z.length=k∧(z.all fun x=>rD h x&&o7 x)=true∧off+len≤l.length)∧K (hput h n (some (.arr k (aAF l off len z) false)))
  |_=>False
 |_=>False
theorem aLE (hok:OK C σ a w S ρ κ) {t e ty:TypeId}{i:TypeInfo}{zv:Value} (hu:P.underlying t=some (.slice e)) (hi:P.info? e=some i) (hz:i.zero=some zv) {X:Operand}{K:(Name→Option Blk)→Prop}
  (hv:wrC i.size (zv.cells.toList.map fun x=>.v x) (evO σ.s) σ.h X K) :
  ∃h' w',K h'∧(Builtin.clear_ #[t] ty #[a.eval X]).run P w=.ok (.tuple #[]) w'∧OK C ⟨σ.s,h'⟩ a w' S ρ κ:=by
 have hX:=hok.ev X;generalize a.eval X=vx at hX⊢;simp only[wrC] at hv;split at hv
 ·rename_i n off len hc;rw[hc] at hX;split at hv
  ·rename_i k' l fz hb;obtain⟨⟨rfl,rfl,hzl,hall,hle⟩,hK⟩:=hv;obtain⟨_,base,cap,rfl,hlc,hcap,hbase,_⟩:=kW hX _ _ _ hb;cases len with
   | zero =>
    refine⟨_,w,hK,?_,?_⟩
    ·cases base<;>simp[Builtin.clear_,run_underlying hu]
    ·have:hput σ.h n (some (.arr i.size (aAF l off 0 (zv.cells.toList.map fun x=>.v x)) false))=σ.h:=by
      funext m
      rw[aHY];by_cases hm:m=n
      ·subst hm;simp[hput,hb]
      ·simp[hput,hm]
     rw[this];exact hok
   | succ len =>
    obtain⟨x,hx,rfl⟩:=hbase (by omega);obtain⟨h0,⟨h1,h2⟩|⟨y,cur,T',fr,h1,h2,h3,h4,_,h5,h6,h7⟩⟩:=hok.hok.blk n _ hb
    ·rw[h1] at hx;cases hx
    obtain rfl:=Option.some.inj (hx.symm.trans h1);have hzs:zv.cells.size=i.size:=by simpa using hzl
    have hlen:(Builtin.zeroCells zv.cells (len+1)).size=(len+1)*i.size:=by simp[Builtin.zeroCells,hzs]
    have hget:∀j,j<(len+1)*i.size→(Builtin.zeroCells zv.cells (len+1)).getD j undef=zv.cells.getD (j%i.size) undef:=by
     intro j hj;have:=sH zv.cells (len+1) i.size hzs j hj;unfold Builtin.zeroCells;rw[hzs] at this⊢;exact this
    have hcv:∀j,j<i.size→(zv.cells.getD j undef).oneCell'=true∧RC S w ((zv.cells.toList.map fun x=>AV.v x).getD j .junk) (zv.cells.getD j undef):=by
     intro j hj;have hjl:j<(zv.cells.toList.map fun x=>AV.v x).length:=by rw[hzl];exact hj
     have h8:=(sO (S:=S) (w:=w) (ρ:=ρ) (κ:=κ) (h:=σ.h) zv.cells).2 j hjl;have h9:=aAI hall hjl;simp only[Bool.and_eq_true] at h9;exact⟨x9 h8 h9.1,h8.closed h9.2⟩
    have hmul:(off+(len+1))*i.size≤l.length*i.size:=Nat.mul_le_mul_right _ hle;rw[Nat.add_mul] at hmul
    have hone:∀v∈(Builtin.zeroCells zv.cells (len+1)).toList,v.oneCell'=true:=by
     intro v hv;obtain⟨j,hj,rfl⟩:=List.mem_iff_getElem.1 hv;simp only[Array.length_toList,hlen] at hj
     have hk0:0<i.size:=by
      rcases Nat.eq_zero_or_pos i.size with h|h
      ·rw[h] at hj;omega
      ·exact h
     have:=(hcv (j%i.size) (Nat.mod_lt _ hk0)).1;rw[←hget j hj] at this;have hj':j<(Builtin.zeroCells zv.cells (len+1)).size:=by rw[hlen];exact hj
     simpa[hj'] using this
    have hst:=mQ (P:=P) (o:=off*i.size) (Builtin.zeroCells zv.cells (len+1)).toList 0 cur w h2 h3 (by simp only[Array.length_toList,hlen];omega) hone;refine⟨_,gP w x (.cells (vW cur (off*i.size+0) (Builtin.zeroCells zv.cells (len+1)).toList) T' fr),hK,?_,?_⟩
    rotate_left
    ·refine hok.write hb hx (h4 rfl) (sG _ _ _) (fun y hy=>l5 _ _ hy) ⟨rfl,rfl⟩ (by simp[Blk.same,sN hle]) fun h' hn=>?_;have hSw:∀y,S y→(gP w x (.cells (vW cur (off*i.size+0) (Builtin.zeroCells zv.cells (len+1)).toList) T' fr)).heap[y]? = w.heap[y]?:=fun y hy=>l5 _ _ (fun e=>h4 rfl (e ▸ hy));refine⟨fun p hp=>?_,.inr ⟨x,_,T',fr,hx,tF _ h2,by rw[iQ];exact h3,fun _=>h4 rfl,by simp,by rw[iQ];exact h5,by rw[iQ,sN hle];exact h6,fun p j hp hj=>?_⟩⟩
     ·rw[sN hle] at hp;rw[aDv hle];split
      ·exact hzl
      ·exact h0 p hp
     ·rw[sN hle] at hp;rw[aDv hle,uN _ _ _ _ (by simp only[Array.length_toList,hlen];omega)];simp only[Array.length_toList,hlen,Nat.add_zero];by_cases hin:off≤p∧p<off+(len+1)
      ·have g1:off*i.size≤p*i.size:=Nat.mul_le_mul_right _ hin.1;have g2:(p+1)*i.size≤(off+(len+1))*i.size:=Nat.mul_le_mul_right _ hin.2;rw[Nat.succ_mul,Nat.add_mul] at g2;rw[if_pos hin,if_pos (by omega)]
       have e1:p*i.size+j-off*i.size=(p-off)*i.size+j:=by
        rw[Nat.sub_mul];omega
       have e2:((p-off)*i.size+j)%i.size=j:=by rw[Nat.mul_comm,Nat.mul_add_mod,Nat.mod_eq_of_lt hj]
       have e3:(p-off)*i.size+j<(len+1)*i.size:=by rw[Nat.sub_mul];omega
       have:=hget _ e3;rw[e2] at this
       have e4:(Builtin.zeroCells zv.cells (len+1)).toList.getD (p*i.size+j-off*i.size) undef=zv.cells.getD j undef:=by
        rw[e1,←this,getD_toList]
       rw[e4];exact⟨(hcv j hj).1,(hcv j hj).2.mono (fun _ h=>h) hSw⟩
      ·have:¬(off*i.size≤p*i.size+j∧p*i.size+j<off*i.size+(len+1)*i.size):=by
        rintro⟨g1,g2⟩;rcases Nat.lt_or_ge p off with hlt'|hge
        ·have:(p+1)*i.size≤off*i.size:=Nat.mul_le_mul_right _ hlt';rw[Nat.succ_mul] at this;omega
        ·have:(off+(len+1))*i.size≤p*i.size:=Nat.mul_le_mul_right _ (by omega);rw[Nat.add_mul] at this;omega
       rw[if_neg hin,if_neg this];exact⟨(h7 p j hp hj).1,(h7 p j hp hj).2.mono (fun _ h=>h) hSw⟩
    ·simp[Builtin.clear_,run_underlying hu,zeroValue,typeInfo,hi,hz,hst]
  ·exact hv.elim
 ·exact hv.elim
def wrS (k:Nat) (ev:Operand→AV) (h:Name→Option Blk) (A X:Operand) (K:(Name→Option Blk)→Prop):Prop:=
 match ev A with
 | .ptr n e c=>match h n,jZ h (ev X) with
  |some b,some cs=>(b.fz=false∧0<k∧cs.length=k∧c+k≤(b.row e).length∧b.okc cs=true)∧K (hput h n (some (b.setRow e (lay (b.row e) c cs))))
  |_,_=>False
 |_=>False
theorem aAw (l:List (List AV)) (e i:Nat) (r:List AV) (he:e<l.length):(l.set e r).getD i []=if i=e then r else l.getD i []:=by
 by_cases h:i=e
 ·subst h;simp[List.getD,he]
 ·rw[if_neg h];simp[List.getD,List.getElem?_set_ne (Ne.symm h)]
theorem aH3 (hok:OK C σ a w S ρ κ) {T:TypeId}{k:Nat} (hk:kE P T=some k) {A X:Operand}{K:(Name→Option Blk)→Prop} (hv:wrS k (evO σ.s) σ.h A X K) :
  ∃h' w',K h'∧(Instr.storeAt T (a.eval A) (a.eval X)).run P w=.ok () w'∧OK C ⟨σ.s,h'⟩ a w' S ρ κ:=by
 have hA:=hok.ev A;have hX:=hok.ev X;generalize a.eval A=va at hA⊢;generalize a.eval X=vx at hX⊢;simp only[wrS] at hv;split at hv
 ·rename_i n e c hc;rw[hc] at hA;split at hv
  ·rename_i b cs hb hcs;obtain⟨⟨hz,hk0,hlen,hle,hclo⟩,hK⟩:=hv;obtain⟨⟨hcl,hcr⟩,hone⟩:=aCx hX hcs;obtain⟨x,hx,rfl⟩:=eX hA _ hb;have hbk:=hok.hok.blk n b hb
   have hvone:∀v∈vx.cells.toList,v.oneCell'=true:=by
    intro v hv;obtain⟨j,hj,rfl⟩:=List.mem_iff_getElem.1 hv;simp only[Array.length_toList] at hj;have:=hone j (by omega);simpa[hj] using this
   have hstore:∀(cur:Array Value) (T':TypeId) (fr:Nat×Nat),w.heap[x]? = some (.cells cur T' fr)→aJZ fr cur.size→e*b.k+c+k≤cur.size→
     (Instr.storeAt T (.pointer (some ⟨x,e*b.k+c,none⟩)) vx).run P w=.ok () (gP w x (.cells (vW cur (e*b.k+c) vx.cells.toList) T' fr)):=by
    intro cur T' fr hh ht hle';have hs:=mQ (P:=P) (o:=e*b.k+c) vx.cells.toList 0 cur w hh ht (by simp;omega) hvone;have:¬(vx.cells.size≠k):=by omega
    simp only[Nat.add_zero] at hs;simp[Instr.storeAt,Instr.sureAddr,storeVar,run_sizeOf hk,←hcl,hlen,hs]
   cases b with
   | var rc z =>
    simp only[Blk.fz] at hz;subst hz;obtain⟨y,cur,T',fr,h1,h2,h3,h4,_,h5,h6,h7⟩:=hbk;obtain rfl:=Option.some.inj (hx.symm.trans h1)
    have he:e=0:=by
     cases e with
     |zero=>rfl
     |succ e=>simp[Blk.row] at hle;omega
    subst he;simp only[Blk.row,Blk.k,Nat.mul_zero,Nat.zero_add] at hle hstore hK⊢;refine⟨_,_,hK,hstore cur T' fr h2 h3 (by omega),?_⟩;refine hok.write hb hx (h4 rfl) (sG _ _ _) (fun y hy=>l5 _ _ hy) ⟨rfl,rfl⟩ (by simp[Blk.same,Blk.setRow,lV]) fun h' hn=>?_;have hSw:∀y,S y→(gP w x (.cells (vW cur c vx.cells.toList) T' fr)).heap[y]? = w.heap[y]?:=fun y hy=>l5 _ _ (fun e=>h4 rfl (e ▸ hy));refine⟨x,vW cur c vx.cells.toList,T',fr,hx,tF _ h2,by rw[iQ];exact h3,fun _=>h4 rfl,by simp,by rw[iQ];exact h5,by rw[iQ,lV];exact h6,fun j hj=>?_⟩;rw[lV] at hj;rw[aAx _ _ _ _ (by omega),uN _ _ _ _ (by simp;omega)];simp only[Array.length_toList,←hcl];by_cases hj2:c≤j∧j<c+cs.length
    ·rw[if_pos hj2,if_pos hj2,getD_toList];exact⟨hone _ (by omega),(hcr _ (by omega)).mono (fun _ h=>h) hSw fun m _=>hn m⟩
    ·rw[if_neg hj2,if_neg hj2];exact⟨(h7 j hj).1,(h7 j hj).2.mono (fun _ h=>h) hSw fun m _=>hn m⟩
   | arr k' l z =>
    simp only[Blk.fz] at hz;subst hz;simp only[Blk.row,Blk.k] at hle hstore hK⊢
    have he:e<l.length:=by
     rcases Nat.lt_or_ge e l.length with h'|h'
     ·exact h'
     ·simp[List.getD,List.getElem?_eq_none h'] at hle;omega
    obtain⟨h0,⟨h1,h2⟩|⟨y,cur,T',fr,h1,h2,h3,h4,_,h5,h6,h7⟩⟩:=hbk
    ·subst h2;simp at he
    obtain rfl:=Option.some.inj (hx.symm.trans h1);have hrow:(l.getD e []).length=k':=h0 e he
    have hlt:e*k'+k'≤cur.size:=by
     have:(e+1)*k'≤l.length*k':=Nat.mul_le_mul_right _ he;rw[Nat.succ_mul] at this;omega
    refine⟨_,_,hK,hstore cur T' fr h2 h3 (by omega),?_⟩;refine hok.write hb hx (h4 rfl) (sG _ _ _) (fun y hy=>l5 _ _ hy) ⟨rfl,rfl⟩ (by simp[Blk.same,Blk.setRow]) fun h' hn=>?_;have hSw:∀y,S y→(gP w x (.cells (vW cur (e*k'+c) vx.cells.toList) T' fr)).heap[y]? = w.heap[y]?:=fun y hy=>l5 _ _ (fun e=>h4 rfl (e ▸ hy));refine⟨fun i hi=>?_,.inr ⟨x,vW cur (e*k'+c) vx.cells.toList,T',fr,hx,tF _ h2,by rw[iQ];exact h3,fun _=>h4 rfl,by simp,by rw[iQ];exact h5,by rw[iQ];simpa using h6,fun i j hi hj=>?_⟩⟩
    ·simp only[List.length_set] at hi;rw[aAw _ _ _ _ he];by_cases hie:i=e
     ·subst hie;rw[if_pos rfl,lV];exact hrow
     ·rw[if_neg hie];exact h0 i hi
    ·simp only[List.length_set] at hi;rw[aAw _ _ _ _ he,uN _ _ _ _ (by simp;omega)];simp only[Array.length_toList,←hcl];by_cases hie:i=e
     ·subst hie;rw[if_pos rfl,aAx _ _ _ _ (by omega)];by_cases hj2:c≤j∧j<c+cs.length
      ·rw[if_pos hj2,if_pos (by omega),getD_toList];have e1:i*k'+j-(i*k'+c)=j-c:=by omega
       rw[e1];exact⟨hone _ (by omega),((hcr _ (by omega)).closed (mE hclo (by omega))).mono (fun _ h=>h) hSw⟩
      ·rw[if_neg hj2,if_neg (by omega)];exact⟨(h7 i j hi hj).1,(h7 i j hi hj).2.mono (fun _ h=>h) hSw⟩
     ·rw[if_neg hie]
      have:¬(e*k'+c≤i*k'+j∧i*k'+j<e*k'+c+cs.length):=by
       rintro⟨g1,g2⟩;rcases Nat.lt_or_ge i e with hlt'|hge
       ·have:(i+1)*k'≤e*k':=Nat.mul_le_mul_right _ hlt';rw[Nat.succ_mul] at this;omega
       ·have:(e+1)*k'≤i*k':=Nat.mul_le_mul_right _ (by omega);rw[Nat.succ_mul] at this;omega
      rw[if_neg this];exact⟨(h7 i j hi hj).1,(h7 i j hi hj).2.mono (fun _ h=>h) hSw⟩
  ·exact hv.elim
 ·exact hv.elim
end
section
variable [Envs]
variable {P:Program}{C:Ctx}{σ:FSt}{a:Act}{w:World}{S:Nat→Prop}{ρ:Name→Option Nat}{κ:Name→Nat}{h:Name→Option Blk}
def scr (n:Name) (x:AV):AV:=if x.has n then .junk else x
def aBp (n:Name):Blk→Blk
 |.var c z=>.var (c.map (scr n)) z
 |b=>b
def tZ (n:Name) (σ:FSt):FSt:=⟨fun t=>scr n (σ.s t),fun m=>if m=n then none else(σ.h m).map (aBp n)⟩
theorem OK.kill (hok:OK C σ a w S ρ κ) (n:Name):OK C (tZ n σ) a w S ρ κ:=by
 have hsame:∀c:Blk,c.same (aBp n c):=by
  intro c;cases c<;>simp[aBp,Blk.same]
 have hn:∀m,iN ρ ρ κ κ σ.h (tZ n σ).h m:=by
  intro m b' hb';simp only[tZ] at hb';split at hb'
  ·cases hb'
  ·cases hm:σ.h m with
   |none=>rw[hm] at hb';cases hb'
   | some c =>
    rw[hm] at hb';simp only[Option.map_some,Option.some.injEq] at hb';subst hb';exact⟨rfl,rfl,c,hm ▸ rfl,hsame c⟩
 have hrv:∀x v,RV S w ρ κ σ.h x v→RV S w ρ κ (tZ n σ).h (scr n x) v:=by
  intro x v hx;unfold scr;split
  ·exact .junk _
  ·exact hx.mono (fun _ h=>h) (fun _ _=>rfl) fun m _=>hn m
 have hsome:∀m,((tZ n σ).h m).isSome→(σ.h m).isSome:=by
  intro m hm;simp only[tZ] at hm;split at hm
  ·cases hm
  ·simpa using hm
 refine ⟨hok.nt,hok.defers,fun t=>hrv _ _ (hok.slots t),⟨fun m b' hb'=>?_,fun m m' y h1 h2 h3 h4=>hok.hok.inj m m' y (hsome m h1) (hsome m' h2) h3 h4,hok.hok.dom,hok.hok.env⟩,hok.size,hok.old,
   fun m y h1 h2=>hok.mine m y (hsome m h1) h2,hok.S0,hok.Snew,hok.out,fun j b' hb'=>?_⟩
 rotate_left
 ·obtain⟨_,_,c,h1,h2⟩:=hn (.b j) b' hb';obtain⟨e1,e2,b0,h3,h4⟩:=hok.keep j c h1;exact⟨e1,e2,b0,h3,Blk.same_trans h4 h2⟩
 simp only[tZ] at hb';split at hb'
 ·cases hb'
 ·cases hm:σ.h m with
  |none=>rw[hm] at hb';cases hb'
  | some c =>
   rw[hm] at hb';simp only[Option.map_some,Option.some.injEq] at hb';subst hb';have hc:=hok.hok.blk m c hm;cases c with
   | var c z =>
    obtain⟨x,cs,T,fr,h1,h2,h3,h4,h4',h5,h6,h7⟩:=hc;refine⟨x,cs,T,fr,h1,h2,h3,h4,h4',h5,by simpa using h6,fun j hj=>?_⟩;simp only[List.length_map] at hj;have e:(c.map (scr n)).getD j .junk=scr n (c.getD j .junk):=by simp[List.getD,hj]
    rw[e];exact⟨(h7 j hj).1,hrv _ _ (h7 j hj).2⟩
   |arr k l z=>exact hc
theorem OK.add2 (hok:OK C σ a w S ρ κ) {w':World}{n:Name} (hf:j3 n σ) {b:Blk}{ox:Option Nat}{kn:Nat} (hsz:w.heap.size≤w'.heap.size)
  (hw:∀y,y<w.heap.size→ox≠some y→w'.heap[y]? = w.heap[y]?) (ho:w'.os=w.os∧w'.output=w.output)
  (hox:∀x,ox=some x→(∀m,(σ.h m).isSome→ρ m≠some x)∧¬S x∧(C.w0.heap.size≤x∨C.Mut x))
  (hb:∀ρ' κ' h',ρ' n=ox→κ' n=kn→(∀m,m≠n→iN ρ ρ' κ κ' σ.h h' m)→yR S w' ρ' κ' h' n b) :
  OK C ⟨σ.s,hput σ.h n (some b)⟩ a w' S (fun m=>if m=n then ox else ρ m) (fun m=>if m=n then kn else κ m):=by
 have hn:∀m,m≠n→iN ρ (fun m=>if m=n then ox else ρ m) κ (fun m=>if m=n then kn else κ m) σ.h (hput σ.h n (some b)) m:=by
  intro m hm b' hb';simp only[hput,hm,if_false] at hb'⊢;exact⟨trivial,trivial,b',hb',b'.same_refl⟩
 have hSw:∀y,S y→w'.heap[y]? = w.heap[y]?:=fun y hy=>hw y (hok.hok.dom y hy) fun e=>(hox y e).2.1 hy;refine⟨hok.nt,hok.defers,fun t=>?_,⟨fun m c hc=>?_,fun m m' y h1 h2 h3 h4=>?_,fun y hy=>Nat.lt_of_lt_of_le (hok.hok.dom y hy) hsz,hok.hok.env.mono (fun _ h=>h) hSw⟩,Nat.le_trans hok.size hsz,fun y hy hm=>?_,fun m y h1 h2=>?_,hok.S0,hok.Snew,⟨ho.1.trans hok.out.1,ho.2.trans hok.out.2⟩,fun j c hc=>?_⟩
 rotate_right
 ·have e:Name.b j≠n:=fun e=>hf.1.2 j e.symm;simp only[hput,e,if_false] at hc⊢;exact hok.keep j c hc
 ·refine(hok.slots t).mono (fun _ h=>h) hSw fun m hm=>hn m ?_;rintro rfl;rw[hf.2.1 t] at hm;cases hm
 ·by_cases hmn:m=n
  ·subst hmn;simp only[hput,if_true] at hc;obtain rfl:=Option.some.inj hc;exact hb _ _ _ (by simp) (by simp) hn
  ·simp only[hput,hmn,if_false] at hc;refine(hok.hok.blk m c hc).mono (fun _ h=>h) (fun _ _ h=>h) hSw (fun y hy=>hw y (hok.hok.lt (by simp[hc]) hy) fun e=>(hox y e).1 m (by simp[hc]) hy) (by simp[hmn]) (by simp[hmn]) fun m' hm'=>hn m' ?_;rintro rfl;rw[hf.2.2 m c hc] at hm';cases hm'
 ·by_cases e1:m=n<;>by_cases e2:m'=n
  ·rw[e1,e2]
  ·simp only[e1,if_true] at h3;simp only[hput,e2,if_false] at h2 h4;exact absurd h4 ((hox y h3).1 m' h2)
  ·simp only[e2,if_true] at h4;simp only[hput,e1,if_false] at h1 h3;exact absurd h3 ((hox y h4).1 m h1)
  ·simp only[hput,e1,e2,if_false] at h1 h2 h3 h4;exact hok.hok.inj m m' y h1 h2 h3 h4
 ·by_cases e:ox=some y
  ·rcases(hox y e).2.2 with h|h
   ·omega
   ·exact absurd h hm
  ·rw[hw y (Nat.lt_of_lt_of_le hy hok.size) e];exact hok.old y hy hm
 ·by_cases e:m=n
  ·simp only[e,if_true] at h2;exact(hox y h2).2.2
  ·simp only[hput,e,if_false] at h1 h2;exact hok.mine m y h1 h2
theorem aGv {x:AV}{v:Value} (hok:HOK S w ρ κ h) (hx:RV S w ρ κ h x v) {k:Nat}{l:List (List AV)} (hl:p8 k h x=some l) :
  ∃ base cap,v=.slice base l.length cap∧(∀i,i<l.length→(l.getD i []).length=k)∧
   ∃b off,(l≠[]→base=some ⟨b,off,none⟩∧b<w.heap.size)∧∀i j,i<l.length→j<k→∃u,w.cell? ⟨b,off+(i*k+j),none⟩=some u∧u.oneCell'=true∧RC S w ((l.getD i []).getD j .junk) u:=by
 unfold p8 at hl;split at hl
 ·rename_i k' l';split at hl
  ·rename_i hk;subst hk;obtain rfl:=Option.some.inj hl;cases sW hx with
   | sl _ _ base cap b off xs hb hc ho hr hk hcap =>
    exact⟨base,cap,rfl,hk,b,off,fun hne=>⟨(hb hne).1,hok.dom _ (hb hne).2⟩,fun i j hi hj=>⟨_,hc i j hi hj,ho i j hi hj,hr i j hi hj⟩⟩
  ·cases hl
 ·rename_i n off len;split at hl
  ·rename_i k' l' z hb;split at hl
   ·rename_i hk;subst hk;obtain rfl:=Option.some.inj hl;obtain⟨hle,base,cap,rfl,hlc,hcap,hbase,_⟩:=kW hx _ _ _ hb;have hlen:((l'.drop off).take len).length=len:=by simp;omega
    have hget:∀i,i<len→((l'.drop off).take len).getD i []=l'.getD (off+i) []:=by
     intro i hi;simp[List.getD,hi]
    obtain⟨h0,h1⟩:=hok.blk n _ hb;refine⟨base,cap,by rw[hlen],fun i hi=>?_,?_⟩
    ·rw[hlen] at hi;rw[hget i hi];exact h0 _ (by omega)
    ·rcases h1 with⟨h1,h2⟩|⟨x,cs,T,fr,h1,h2,h3,h4,_,h5,h6,h7⟩
     ·subst h2;simp only[List.length_nil] at hle;exact⟨0,0,fun hne=>absurd (List.length_eq_zero_iff.1 (by rw[hlen];omega)) hne,fun i j hi=>by rw[hlen] at hi;omega⟩
     ·refine⟨x,off*k',fun hne=>?_,fun i j hi hj=>?_⟩
      ·have hpos:0<len:=by
        rcases Nat.eq_zero_or_pos len with h0|h0
        ·exact absurd (List.length_eq_zero_iff.1 (by rw[hlen];exact h0)) hne
        ·exact h0
       obtain⟨y,hy,rfl⟩:=hbase hpos;obtain rfl:=Option.some.inj (h1.symm.trans hy);exact⟨rfl,lt_of_heap h2⟩
      ·rw[hlen] at hi;have:=h7 (off+i) j (by omega) hj
       have hlt:(off+i)*k'+j<cs.size:=by
        have:(off+i+1)*k'≤l'.length*k':=Nat.mul_le_mul_right _ (by omega);rw[Nat.succ_mul] at this;omega
       rw[hget i hi];have e:off*k'+(i*k'+j)=(off+i)*k'+j:=by rw[Nat.add_mul];omega
       exact⟨_,by rw[e];exact cell_of_row h2 hlt,this⟩
   ·cases hl
  ·cases hl
 ·obtain rfl:=Option.some.inj hl;obtain rfl:=dY hx;exact⟨none,0,rfl,by simp,0,0,by simp,by simp⟩
 ·cases hl
def p9 (k:Nat) (l:List (List AV)) (m:Nat):AV:=(l.getD (m/k) []).getD (m%k) .junk
theorem xM {k n m:Nat} (h:m<n*k):m/k<n∧m%k<k∧m/k*k+m%k=m:=by
 have hk:0<k:=by
  rcases Nat.eq_zero_or_pos k with h0|h0
  ·subst h0;omega
  ·exact h0
 refine⟨(Nat.div_lt_iff_lt_mul hk).2 h,Nat.mod_lt _ hk,?_⟩;have:=Nat.div_add_mod m k;rw[Nat.mul_comm] at this;exact this
structure Reads (S:Nat→Prop) (w:World) (base:Option Addr) (k:Nat) (l:List (List AV)) (f:Nat→Value):Prop where
 rows:∀i,i<l.length→(l.getD i []).length=k
 cell:∀w':World,w'.heap=w.heap→∀m,m<l.length*k→∃b off,base=some ⟨b,off,none⟩∧w'.cell? ⟨b,off+m,none⟩=some (f m)
 one:∀m,m<l.length*k→(f m).oneCell'=true
 rc:∀m,m<l.length*k→RC S w (p9 k l m) (f m)
theorem aBZ {x:AV}{v:Value} (hok:HOK S w ρ κ h) (hx:RV S w ρ κ h x v) {k:Nat}{l:List (List AV)} (hl:p8 k h x=some l) :
  ∃base cap f,v=.slice base l.length cap∧Reads S w base k l f:=by
 obtain⟨base,cap,rfl,hrow,b,off,hb,hc⟩:=aGv hok hx hl;refine⟨base,cap,fun m=>(w.cell? ⟨b,off+m,none⟩).getD undef,rfl,hrow,fun w' hw m hm=>?_,fun m hm=>?_,fun m hm=>?_⟩
 all_goals
  obtain⟨h1,h2,h3⟩:=xM hm;obtain⟨u,hu,ho,hr⟩:=hc _ _ h1 h2;rw[h3] at hu
 ·refine⟨b,off,(hb (by rintro rfl;simp at hm)).1,?_⟩;have:w'.cell? ⟨b,off+m,none⟩=w.cell? ⟨b,off+m,none⟩:=by simp[World.cell?,hw]
  rw[this,hu];rfl
 ·simp only[hu,Option.getD_some];exact ho
 ·simp only[hu,Option.getD_some];exact hr
theorem Reads.first {base:Option Addr}{k:Nat}{l:List (List AV)}{f:Nat→Value} (hr:Reads S w base k l f) (cap:Nat) {w':World} (hw:w'.heap=w.heap) :
  (Builtin.firstCells k l.length (.slice base l.length cap)).run P w'=.ok ((List.range (l.length*k)).map f).toArray w':=by
 cases base with
 | none =>
  have:l.length*k=0:=by
   rcases Nat.eq_zero_or_pos (l.length*k) with h|h
   ·exact h
   ·obtain⟨_,_,h,_⟩:=hr.cell w rfl 0 h;cases h
  simp[Builtin.firstCells,this]
 | some b =>
  simp only[Builtin.firstCells];refine run_loadCells w' b (l.length*k) f fun j hj=>?_;obtain⟨x,off,h1,h2⟩:=hr.cell w' hw j hj;obtain rfl:=Option.some.inj h1;rw[addr_add];exact h2
theorem wP {k:Nat}{l l':List (List AV)}{m:Nat} (hm:m<(l++l').length*k) :
  p9 k (l++l') m=if m<l.length*k then p9 k l m else p9 k l' (m-l.length*k):=by
 obtain⟨h1,h2,h3⟩:=xM hm;have hk:0<k:=by omega
 unfold p9;by_cases h:m<l.length*k
 ·rw[if_pos h];have:=(Nat.div_lt_iff_lt_mul hk).2 h;simp[List.getD,List.getElem?_append_left this]
 ·rw[if_neg h];have hge:l.length≤m/k:=(Nat.le_div_iff_mul_le hk).2 (by omega);have e1:(m-l.length*k)/k=m/k-l.length:=by rw[Nat.mul_comm];exact Nat.sub_mul_div _ _ _
  have e2:(m-l.length*k)%k=m%k:=by rw[Nat.mul_comm];exact Nat.sub_mul_mod (by rw[Nat.mul_comm];omega)
  rw[e1,e2];simp[List.getD,List.getElem?_append_right hge]
theorem aAH {k:Nat}{l:List (List AV)}{cs:Array Value} (hc:∀m,m<l.length*k→(cs.getD m undef).oneCell'=true∧RC S w (p9 k l m) (cs.getD m undef)) :
  ∀i j,i<l.length→j<k→(cs.getD (i*k+j) undef).oneCell'=true∧RC S w ((l.getD i []).getD j .junk) (cs.getD (i*k+j) undef):=by
 intro i j hi hj
 have hlt:i*k+j<l.length*k:=by
  have:(i+1)*k≤l.length*k:=Nat.mul_le_mul_right _ hi;rw[Nat.succ_mul] at this;omega
 have:=hc _ hlt;unfold p9 at this
 have e1:(i*k+j)/k=i:=by
  rw[Nat.mul_comm,Nat.mul_add_div (by omega),Nat.div_eq_of_lt hj];omega
 have e2:(i*k+j)%k=j:=by rw[Nat.mul_comm,Nat.mul_add_mod,Nat.mod_eq_of_lt hj]
 rw[e1,e2] at this;exact this
def aBo (k:Nat) (h:Name→Option Blk):AV→Option (Option Name×List (List AV))
 |.v (.slice none 0 0)=>some (none,[])
 | .loc n off len=>match h n with
  |some (.arr k' l z)=>if k'=k∧off=0∧len=l.length∧z=false then some (some n,l) else none
  |_=>none
 |_=>none
def aBd:Option Name→FSt→FSt
 |some n,σ=>tZ n σ
 |none,σ=>σ
def wrA (k bytes:Nat) (σ:FSt) (d:Name) (A X:Operand) (K:FSt→AV→Prop):Prop:=
 match aBo k σ.h (evO σ.s A),p8 k σ.h (evO σ.s X) with
 | some (on,l),some l'=>((l.length+l'.length)*bytes≤2 ^ 47∧l.length+l'.length<2 ^ 62)∧
   K ⟨(aBd on σ).s,hput (aBd on σ).h d (some (.arr k (l++l') false))⟩ (.loc d 0 (l.length+l'.length))
 |_,_=>False
theorem aHd (hok:OK C σ a w S ρ κ) {t t2 e e2:TypeId}{ty:TypeId}{i:TypeInfo}{zv:Value} (hu:P.underlying t=some (.slice e)) (hu2:P.underlying t2=some (.slice e2)) (hi:P.info? e=some i) (hz:i.zero=some zv) (hzs:zv.cells.size=i.size) {A X:Operand}{d:Name}{K:FSt→AV→Prop}
  (hf:∀on l,aBo i.size σ.h (evO σ.s A)=some (on,l)→j3 d (aBd on σ)) (hv:wrA i.size i.bytes σ d A X K) :
  ∃σ' x v w' ρ' κ',K σ' x∧(Builtin.append_ #[t,t2] ty #[a.eval A,a.eval X]).run P w=.ok v w'∧OK C σ' a w' S ρ' κ'∧RV S w' ρ' κ' σ'.h x v:=by
 have hA:=hok.ev A;have hX:=hok.ev X;generalize a.eval A=va at hA⊢;generalize a.eval X=vx at hX⊢;simp only[wrA] at hv;split at hv
 ·rename_i on l l' hbo hro;obtain⟨⟨hby,hln⟩,hK⟩:=hv;have hfr:=hf _ _ hbo;obtain⟨xb,xc,f',rfl,hR'⟩:=aBZ hok.hok hX hro
  have hbase:∃base cap f,va=.slice base l.length cap∧Reads S w base i.size l f∧cap<2 ^ 63∧
    ((on=none∧base=none∧cap=0∧l=[])∨∃n z,on=some n∧σ.h n=some (.arr i.size l false)∧z=()∧((ρ n=none∧base=none∧cap=0)∨∃x,ρ n=some x∧base=some ⟨x,0,none⟩∧cap*i.size≤κ n)):=by
   unfold aBo at hbo;split at hbo
   ·rename_i hev;simp only[Option.some.injEq,Prod.mk.injEq] at hbo;obtain⟨rfl,rfl⟩:=hbo;rw[hev] at hA;obtain rfl:=dY hA;exact⟨none,0,fun _=>undef,rfl,⟨by simp,by simp,by simp,by simp⟩,by omega,.inl ⟨rfl,rfl,rfl,rfl⟩⟩
   ·rename_i n off len hev;split at hbo
    ·rename_i k' l2 z hb;split at hbo
     ·rename_i hcond;obtain⟨rfl,rfl,rfl,rfl⟩:=hcond;simp only[Option.some.injEq,Prod.mk.injEq] at hbo;obtain⟨rfl,rfl⟩:=hbo;rw[hev] at hA;have hro':p8 i.size σ.h (.loc n 0 l2.length)=some l2:=by simp[p8,hb]
      obtain⟨base,cap,f,hva,hR⟩:=aBZ hok.hok hA hro';obtain⟨_,base',cap',hva',_,hcap,_,hfull⟩:=kW hA _ _ _ hb;rw[hva] at hva';simp only[Value.slice.injEq,true_and] at hva';obtain⟨rfl,rfl⟩:=hva';exact⟨base,cap,f,hva,hR,hcap,.inr ⟨n,(),rfl,hb,rfl,hfull rfl rfl⟩⟩
     ·cases hbo
    ·cases hbo
   ·cases hbo
  obtain⟨base,cap,f,rfl,hR,hcap,hcase⟩:=hbase
  have hokk:OK C (aBd on σ) a w S ρ κ:=by
   cases on with
   |none=>exact hok
   |some n=>exact hok.kill n
  have hrows:∀j,j<(l++l').length→((l++l').getD j []).length=i.size:=by
   intro j hj;simp only[List.length_append] at hj;by_cases h1:j<l.length
   ·simpa[List.getD,List.getElem?_append_left h1] using hR.rows j h1
   ·simpa[List.getD,List.getElem?_append_right (Nat.le_of_not_lt h1)] using hR'.rows (j-l.length) (by omega)
  have hfirst':=fun w' hw=>hR'.first (P:=P) xc (w':=w') hw;have hfirst:=fun w' hw=>hR.first (P:=P) cap (w':=w') hw;have hcellsN:(l++l').length*i.size=l.length*i.size+l'.length*i.size:=by rw[List.length_append,Nat.add_mul]
  have hone':∀v∈(List.range (l'.length*i.size)).map f',v.oneCell'=true:=by
   intro v hv;obtain⟨m,hm,rfl⟩:=List.mem_map.1 hv;exact hR'.one m (by simpa using hm)
  by_cases hroom:l.length+l'.length≤cap
  ·-- there is room: the row is written where it lies, or nothing is written
   have hnil:base=none→cap=0→l=[]→∃σ' x v w' ρ' κ',K σ' x∧(Builtin.append_ #[t,t2] ty #[.slice base l.length cap,.slice xb l'.length xc]).run P w=.ok v w'∧OK C σ' a w' S ρ' κ'∧RV S w' ρ' κ' σ'.h x v:=by
    rintro rfl rfl rfl;obtain rfl:l'=[]:=by simpa using hroom
    have hff:=hfirst' w rfl;simp only[List.length_nil,Nat.zero_mul,List.range_zero,List.map_nil] at hff;refine⟨_,_,.slice none 0 0,w,_,_,hK,?_,hokk.add2 hfr (b:=.arr i.size [] false) (ox:=none) (kn:=0) (Nat.le_refl _) (fun _ _ _=>rfl) ⟨rfl,rfl⟩ (by simp) (fun ρ' κ' h' e1 e2 _=>⟨by simp,.inl ⟨e1,rfl⟩⟩),?_⟩
    ·simp[Builtin.append_,run_underlying hu,run_underlying hu2,sizeOf,typeInfo,hi,Builtin.lenOf,hff]
    ·refine .loc _ _ _ _ fun k' l2 z hb=>?_;simp only[hput,if_true,Option.some.injEq,Blk.arr.injEq] at hb;obtain⟨rfl,rfl,rfl⟩:=hb;exact⟨by simp,none,0,rfl,by omega,by omega,fun h=>absurd h (by simp),fun _ _=>.inl ⟨by simp,rfl,rfl⟩⟩
   rcases hcase with⟨rfl,hbn,hc0,hl0⟩|⟨n,_,rfl,hb,_,⟨hρ,hbn,hc0⟩|⟨x,hρ,rfl,hck⟩⟩
   ·exact hnil hbn hc0 hl0
   ·obtain⟨_,⟨_,hl0⟩|⟨x,_,_,_,hx,_⟩⟩:=hok.hok.blk n _ hb
    ·exact hnil hbn hc0 hl0
    ·rw[hρ] at hx;cases hx
   ·-- written in place
    obtain⟨hk0,⟨h1,h2⟩|⟨y,cur,T,fr,h1,h2,h3,h4,_,h5,h6,h7⟩⟩:=hok.hok.blk n _ hb
    ·rw[hρ] at h1;cases h1
    obtain rfl:=Option.some.inj (hρ.symm.trans h1)
    have hfit:l.length*i.size+l'.length*i.size≤cur.size:=by
     rw[h5,←Nat.add_mul];exact Nat.le_trans (Nat.mul_le_mul_right _ hroom) hck
    have hst:=mQ (P:=P) (o:=l.length*i.size) ((List.range (l'.length*i.size)).map f') 0 cur w h2 h3 (by simp;omega) hone';simp only[Nat.add_zero] at hst;have hff:=hfirst' w rfl;have hS:¬S x:=h4 rfl;have hsz:(vW cur (l.length*i.size) ((List.range (l'.length*i.size)).map f')).size=cur.size:=iQ _ _ _;have hget:=fun m=>uN ((List.range (l'.length*i.size)).map f') cur (l.length*i.size) m (by simp;omega);simp only[List.length_map,List.length_range] at hget
    refine ⟨_,_,.slice (some ⟨x,0,none⟩) (l.length+l'.length) cap,gP w x (.cells (vW cur (l.length*i.size) ((List.range (l'.length*i.size)).map f')) T fr),_,_,hK,?_,
      hokk.add2 hfr (b:=.arr i.size (l++l') false) (ox:=some x) (kn:=κ n) (by rw[sG];exact Nat.le_refl _) (fun y _ hne=>l5 _ _ (fun e=>hne (e ▸ rfl))) ⟨rfl,rfl⟩ ?_ ?_,?_⟩
    ·simp[Builtin.append_,run_underlying hu,run_underlying hu2,sizeOf,typeInfo,hi,Builtin.lenOf,hff,hroom,addr_add,hst]
    ·intro x' hx';obtain rfl:=Option.some.inj hx';refine⟨fun m hm he=>?_,hS,hok.mine n x (by simp[hb]) hρ⟩;simp only[aBd,tZ] at hm;split at hm
     ·cases hm
     ·rename_i hmn;exact hmn (hok.hok.inj m n x (by simpa using hm) (by simp[hb]) he hρ)
    ·intro ρ' κ' h' e1 e2 _;refine⟨hrows,.inr ⟨x,_,T,fr,e1,tF _ h2,by rw[hsz];exact h3,fun _=>hS,by simp,by rw[hsz,h5,e2],by rw[hcellsN,hsz];exact hfit,aAH fun m hm=>?_⟩⟩;have hSw:∀y,S y→(gP w x (.cells (vW cur (l.length*i.size) ((List.range (l'.length*i.size)).map f')) T fr)).heap[y]? = w.heap[y]?:=fun y hy=>l5 _ _ (fun e=>hS (e ▸ hy));rw[wP hm,hget m];rw[hcellsN] at hm;by_cases hml:m<l.length*i.size
     ·rw[if_pos hml,if_neg (by omega)];obtain⟨g1,g2,g3⟩:=xM hml;have:=h7 _ _ g1 g2;rw[g3] at this;exact⟨this.1,this.2.mono (fun _ h=>h) hSw⟩
     ·rw[if_neg hml,if_pos (by omega)];have hm':m-l.length*i.size<l'.length*i.size:=by omega
      have e:((List.range (l'.length*i.size)).map f').getD (m-l.length*i.size) undef=f' (m-l.length*i.size):=by simp[List.getD,hm']
      rw[e];exact⟨hR'.one _ hm',(hR'.rc _ hm').mono (fun _ h=>h) hSw⟩
    ·refine .loc _ _ _ _ fun k' l2 z hb2=>?_;simp only[hput,if_true,Option.some.injEq,Blk.arr.injEq] at hb2;obtain⟨rfl,rfl,rfl⟩:=hb2;refine⟨by simp,_,_,rfl,hroom,hcap,fun _=>⟨x,by simp,by simp⟩,fun _ _=>.inr ⟨x,by simp,rfl,by simpa using hck⟩⟩
  ·-- it grows
   have hgrow:cap<l.length+l'.length:=by omega
   have hff:=hfirst' w.drew rfl;have hff0:=hfirst w.drew rfl;have hfits:=growslice_fits (bytes:=i.bytes) hgrow (by omega);have n63:¬(9223372036854775807<(l.length:Int)+(l'.length:Int)):=by omega
   have n48:¬(281474976710656<Builtin.nextslicecap (l.length+l'.length) cap*i.bytes):=by omega
   have hn:¬(l.length+l'.length≤cap):=by omega
   have hge:=grownCap_ge w (l.length+l'.length) cap e;have hle:=grownCap_le_maxLen w (l.length+l'.length) cap e (by unfold maxLen;omega);unfold maxLen at hle;have hszz:=size_zeroCells zv.cells (grownCap w (l.length+l'.length) cap e-(l.length+l'.length));generalize hcsd:((List.range (l.length*i.size)).map f).toArray++((List.range (l'.length*i.size)).map f').toArray++Builtin.zeroCells zv.cells (grownCap w (l.length+l'.length) cap e-(l.length+l'.length))=cs
   have hcsz:cs.size=grownCap w (l.length+l'.length) cap e*i.size:=by
    rw[←hcsd];simp only[Array.size_append,List.size_toArray,List.length_map,List.length_range,hszz,hzs];rw[←Nat.add_mul,←Nat.add_mul];congr 1;omega
   have hget:∀m,m<l.length*i.size+l'.length*i.size→cs.getD m undef=if m<l.length*i.size then f m else f' (m-l.length*i.size):=by
    intro m hm;rw[←hcsd];by_cases h1:m<l.length*i.size
    ·rw[if_pos h1];simp[Array.getElem?_append,h1,show m<l.length*i.size+l'.length*i.size by omega]
    ·rw[if_neg h1];simp[Array.getElem?_append,hm,List.getElem_append,h1]
   have hex:Ext w (w.drew.alloc (.cells cs e)):=(Ext.of_heap (w':=w.drew) rfl rfl rfl).trans (Ext.push w.drew _)
   obtain ⟨ρ',κ',hok',hrv⟩:=hokk.addArr hex hfr (k:=i.size) (l:=l++l') (cs:=cs) (T:=e) (fr:=(0,0)) (x:=w.heap.size) (cap:=grownCap w (l.length+l'.length) cap e) (Nat.le_refl _) (yG w.drew _) (fun j _ hj=>by omega)
    hrows (by rw[hcsz,List.length_append];exact Nat.mul_le_mul_right _ hge) (aAH fun m hm=>by
      rw[wP hm];rw[hcellsN] at hm;rw[hget m hm];by_cases h1:m<l.length*i.size
      · rw[if_pos h1,if_pos h1];exact⟨hR.one _ h1,hR.rc _ h1⟩
      · rw[if_neg h1,if_neg h1];exact⟨hR'.one _ (by omega),hR'.rc _ (by omega)⟩) ⟨by rw[List.length_append];exact hge,by omega,by rw[hcsz];exact Nat.le_refl _⟩
   refine⟨_,_,_,_,ρ',κ',hK,?_,hok',by rw[←List.length_append];exact hrv⟩;simp[Builtin.append_,run_underlying hu,run_underlying hu2,sizeOf,typeInfo,zeroValue,hi,hz,Builtin.lenOf,hn,n63,n48,Question.forced,hff,hff0,newRow];rw[←hcsd];exact⟨rfl,by rw[Array.append_assoc];rfl⟩
 ·exact hv.elim
end
end Go.Vs
