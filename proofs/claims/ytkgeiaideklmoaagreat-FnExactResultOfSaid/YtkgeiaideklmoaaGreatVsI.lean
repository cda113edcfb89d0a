/- A name is forgotten; append. -/
import Derived.Calls
import Derived.Orders
import Derived.Still
import Derived.Laws.Sem
import Derived.Laws.Cells
import Derived.Laws.Slices
import GoSem.Dispatch
import Derived.Laws.StructEq
import Derived.Laws.World
import Derived.Laws.MakeOwn
import Derived.Laws.Append
import Derived.Laws.AppendOwn
set_option linter.all false
set_option maxHeartbeats 8000000
namespace Go.Vs
section
class Envs where
 l:List (Nat×(Option Obj→Prop))
def envs [Envs]:List (Nat×(Option Obj→Prop)):=Envs.l
end
section
variable [Envs]
inductive Name where
 |b (j:Nat)
 |t (slot j:Nat)
 deriving DecidableEq
inductive AV where
 |v (x:Value)
 |sl (k:Nat) (l:List (List AV))
 |ro (c:List AV)
 |loc (n:Name) (off len:Nat)
 |ptr (n:Name) (e c:Nat)
 |fn (f:FuncId) (caps:List AV)
 |agg (c:List AV)
 |tup (c:List AV)
 |junk
 deriving Inhabited
inductive Blk where
 |var (c:List AV) (fz:Bool)
 |arr (k:Nat) (l:List (List AV)) (fz:Bool)
def Blk.k:Blk→Nat
 |.var _ _=>0
 |.arr k _ _=>k
def Blk.fz:Blk→Bool
 |.var _ z=>z
 |.arr _ _ z=>z
def Blk.same:Blk→Blk→Prop
 |.var c _,.var c' _=>c.length=c'.length
 |.arr k l _,.arr k' l' _=>k=k'∧l.length=l'.length
 |_,_=>False
theorem Blk.same_refl (b:Blk):b.same b:=by cases b<;>simp[Blk.same]
theorem Blk.same_trans {a b c:Blk} (h:a.same b) (h':b.same c):a.same c:=by
 cases a<;>cases b<;>cases c<;>simp_all [Blk.same]
theorem Blk.same_k {a b:Blk} (h:a.same b):a.k=b.k:=by
 cases a<;>cases b<;>simp_all [Blk.same,Blk.k]
inductive RC (S:Nat→Prop) (w:World):AV→Value→Prop
 |v (x:Value):RC S w (.v x) x
 | sl (k:Nat) (l:List (List AV)) (base:Option Addr) (cap x off:Nat) (xs:Nat→Value)
   (hb:l≠[]→base=some ⟨x,off,none⟩∧S x)
   (hc:∀i j,i<l.length→j<k→w.cell? ⟨x,off+(i*k+j),none⟩=some (xs (i*k+j)))
   (ho:∀i j,i<l.length→j<k→(xs (i*k+j)).oneCell'=true)
   (hr:∀i j,i<l.length→j<k→RC S w ((l.getD i []).getD j .junk) (xs (i*k+j)))
   (hk:∀i,i<l.length→(l.getD i []).length=k)
   (hcap:l.length≤cap∧cap<2 ^ 63):RC S w (.sl k l) (.slice base l.length cap)
 | ro (c:List AV) (x off:Nat) (xs:Nat→Value) (hS:S x)
   (hc:∀j,j<c.length→w.cell? ⟨x,off+j,none⟩=some (xs j))
   (ho:∀j,j<c.length→(xs j).oneCell'=true)
   (hr:∀j,j<c.length→RC S w (c.getD j .junk) (xs j)):RC S w (.ro c) (.pointer (some ⟨x,off,none⟩))
 | fn (f:FuncId) (c:List AV) (vs:Array Value) (hl:c.length=vs.size)
   (hr:∀j,j<c.length→RC S w (c.getD j .junk) (vs.getD j undef)):RC S w (.fn f c) (.func (.func f) #[] vs)
 | agg (c:List AV) (vs:Array Value) (hl:c.length=vs.size)
   (hr:∀j,j<c.length→RC S w (c.getD j .junk) (vs.getD j undef)):RC S w (.agg c) (.agg vs)
 | tup (c:List AV) (vs:Array Value) (hl:c.length=vs.size)
   (hr:∀j,j<c.length→RC S w (c.getD j .junk) (vs.getD j undef)):RC S w (.tup c) (.tuple vs)
theorem cell?_of_block {w w':World}{b off:Nat} (h:w'.heap[b]? = w.heap[b]?):w'.cell? ⟨b,off,none⟩=w.cell? ⟨b,off,none⟩:=by
 simp[World.cell?,h]
theorem RC.mono {S S':Nat→Prop}{w w':World} (H:∀b,S b→S' b) (I:∀b,S b→w'.heap[b]? = w.heap[b]?) {x:AV}{v:Value} (h:RC S w x v):RC S' w' x v:=by
 induction h with
 |v x=>exact .v x
 | sl k l base cap x off xs hb hc ho hr hk hcap ih =>
  by_cases F:l=[]
  ·subst F;exact .sl k [] base cap x off xs (by simp) (by simp) (by simp) (by simp) (by simp) hcap
  ·refine .sl k l base cap x off xs (fun h=>⟨(hb h).1,H _ (hb h).2⟩) (fun i j hi G=>?_) ho ih hk hcap;rw[cell?_of_block (I _ (hb F).2)];exact hc i j hi G
 | ro c x off xs hx hc ho hr ih =>
  refine .ro c x off xs (H _ hx) (fun j G=>?_) ho ih;rw[cell?_of_block (I _ hx)];exact hc j G
 |fn f c vs F hr ih=>exact .fn f c vs F ih
 |agg c vs F hr ih=>exact .agg c vs F ih
 |tup c vs F hr ih=>exact .tup c vs F ih
mutual
def AV.has (n:Name):AV→Bool
 |.loc m _ _=>decide (m=n)
 |.ptr m _ _=>decide (m=n)
 |.fn _ c=>l6 n c
 |.agg c=>l6 n c
 |.tup c=>l6 n c
 |_=>false
def l6 (n:Name):List AV→Bool
 | []=>false
 |x::r=>x.has n||l6 n r
end
theorem qF {n:Name}:∀{c:List AV}{j:Nat},l6 n c=false→(c.getD j .junk).has n=false
 | [],j,_=>by simp[AV.has]
 |x::r,0,h=>by simp[l6] at h;simpa using h.1
 |x::r,j+1,h=>by simp[l6] at h;simpa using qF (c:=r) (j:=j) h.2
def Blk.has (n:Name):Blk→Bool
 |.var c _=>l6 n c
 |.arr _ _ _=>false
/-! ## the open reading -/
def wY (ρ:Name→Option Nat) (κ:Name→Nat) (h:Name→Option Blk) (n:Name) (off len:Nat) (v:Value):Prop:=
 ∀ k l z,h n=some (.arr k l z)→off+len≤l.length∧∃base cap,v=.slice base len cap∧len≤cap∧cap<2 ^ 63∧
  (0<len→∃x,ρ n=some x∧base=some ⟨x,off*k,none⟩)∧
  (off=0→len=l.length→(ρ n=none∧base=none∧cap=0)∨∃x,ρ n=some x∧base=some ⟨x,0,none⟩∧cap*k≤κ n)
def aFf (ρ:Name→Option Nat) (h:Name→Option Blk) (n:Name) (e c:Nat) (v:Value):Prop:=
 ∀b,h n=some b→∃x,ρ n=some x∧v=.pointer (some ⟨x,e*b.k+c,none⟩)
inductive RV (S:Nat→Prop) (w:World) (ρ:Name→Option Nat) (κ:Name→Nat) (h:Name→Option Blk):AV→Value→Prop
 |junk (v:Value):RV S w ρ κ h .junk v
 |clo {x:AV}{v:Value} (hx:RC S w x v):RV S w ρ κ h x v
 |loc (n:Name) (off len:Nat) (v:Value) (hv:wY ρ κ h n off len v):RV S w ρ κ h (.loc n off len) v
 |ptr (n:Name) (e c:Nat) (v:Value) (hv:aFf ρ h n e c v):RV S w ρ κ h (.ptr n e c) v
 | fn (f:FuncId) (c:List AV) (vs:Array Value) (hl:c.length=vs.size)
   (hr:∀j,j<c.length→RV S w ρ κ h (c.getD j .junk) (vs.getD j undef)):RV S w ρ κ h (.fn f c) (.func (.func f) #[] vs)
 | agg (c:List AV) (vs:Array Value) (hl:c.length=vs.size)
   (hr:∀j,j<c.length→RV S w ρ κ h (c.getD j .junk) (vs.getD j undef)):RV S w ρ κ h (.agg c) (.agg vs)
 | tup (c:List AV) (vs:Array Value) (hl:c.length=vs.size)
   (hr:∀j,j<c.length→RV S w ρ κ h (c.getD j .junk) (vs.getD j undef)):RV S w ρ κ h (.tup c) (.tuple vs)
def fC (ρ ρ':Name→Option Nat) (κ κ':Name→Nat) (h h':Name→Option Blk) (n:Name):Prop:=
 ∀b',h' n=some b'→ρ' n=ρ n∧κ' n=κ n∧∃b,h n=some b∧b.same b'
theorem wY.mono {ρ ρ':Name→Option Nat}{κ κ':Name→Nat}{h h':Name→Option Blk}{n:Name}{off len:Nat}{v:Value}
  (M:fC ρ ρ' κ κ' h h' n) (O:wY ρ κ h n off len v):wY ρ' κ' h' n off len v:=by
 intro k l z L;obtain⟨H,I,b,J,G⟩:=M _ L;cases b with
 |var c z'=>simp[Blk.same] at G
 | arr k' l' z' =>
  simp only[Blk.same] at G;obtain⟨rfl,F⟩:=G;have:=O _ _ _ J;rw[H,I,←F];exact this
theorem aFf.mono {ρ ρ':Name→Option Nat}{κ κ':Name→Nat}{h h':Name→Option Blk}{n:Name}{e c:Nat}{v:Value}
  (J:fC ρ ρ' κ κ' h h' n) (G:aFf ρ h n e c v):aFf ρ' h' n e c v:=by
 intro O F;obtain⟨H,U,b,I,L⟩:=J _ F;obtain⟨x,M,G⟩:=G _ I;exact⟨x,by rw[H];exact M,by rw[←Blk.same_k L];exact G⟩
theorem RV.mono {S S':Nat→Prop}{w w':World}{ρ ρ':Name→Option Nat}{κ κ':Name→Nat}{h h':Name→Option Blk}
  (J:∀b,S b→S' b) (L:∀b,S b→w'.heap[b]? = w.heap[b]?) {x:AV}{v:Value}
  (I:RV S w ρ κ h x v) (H:∀n,x.has n=true→fC ρ ρ' κ κ' h h' n):RV S' w' ρ' κ' h' x v:=by
 have G:∀c:List AV,∀j,j<c.length→∀n,(c.getD j .junk).has n=true→l6 n c=true:=by
  intro c j F n hh;cases hc:l6 n c with
  |true=>rfl
  |false=>rw[qF hc] at hh;cases hh
 induction I with
 |junk v=>exact .junk v
 |clo I=>exact .clo (I.mono J L)
 |loc n off len v hv=>exact .loc n off len v (hv.mono (H n (by simp[AV.has])))
 |ptr n e c v hv=>exact .ptr n e c v (hv.mono (H n (by simp[AV.has])))
 |fn f c vs hl hr ih=>exact .fn f c vs hl fun j F=>ih j F fun n hh=>H n (by simpa[AV.has] using G c j F n hh)
 |agg c vs hl hr ih=>exact .agg c vs hl fun j F=>ih j F fun n hh=>H n (by simpa[AV.has] using G c j F n hh)
 |tup c vs hl hr ih=>exact .tup c vs hl fun j F=>ih j F fun n hh=>H n (by simpa[AV.has] using G c j F n hh)
/-! ## the blocks -/
def aJI (fr:Nat×Nat) (n:Nat):Prop:=∀j,j<n→¬(fr.1≤j∧j<fr.2)
def vJ (S:Nat→Prop) (w:World) (ρ:Name→Option Nat) (κ:Name→Nat) (h:Name→Option Blk) (n:Name):Blk→Prop
 | .var c z=>∃x cs T fr,ρ n=some x∧w.heap[x]? = some (.cells cs T fr)∧aJI fr cs.size∧(z=false→¬S x)∧(z=true→S x)∧cs.size=κ n∧
   c.length≤cs.size∧∀j,j<c.length→(cs.getD j undef).oneCell'=true∧RV S w ρ κ h (c.getD j .junk) (cs.getD j undef)
 | .arr k l z=>(∀i,i<l.length→(l.getD i []).length=k)∧((ρ n=none∧l=[])∨∃x cs T fr,ρ n=some x∧w.heap[x]? = some (.cells cs T fr)∧aJI fr cs.size∧
     (z=false→¬S x)∧(z=true→S x)∧cs.size=κ n∧l.length*k≤cs.size∧
     ∀i j,i<l.length→j<k→(cs.getD (i*k+j) undef).oneCell'=true∧RC S w ((l.getD i []).getD j .junk) (cs.getD (i*k+j) undef))
def Env (S:Nat→Prop) (w:World):Prop:=∀p,p∈envs→S p.1∧p.2 w.heap[p.1]?
class Tab (g:Nat) (p:Option Obj→Prop) extends Envs where
 has:∀S w,@Env toEnvs S w→S g∧p w.heap[g]?
theorem Env.mono {S S':Nat→Prop}{w w':World} (h:Env S w) (G:∀b,S b→S' b) (H:∀b,S b→w'.heap[b]? = w.heap[b]?):Env S' w':=
 fun p F=>⟨G _ (h p F).1,by rw[H _ (h p F).1];exact(h p F).2⟩
structure HOK (S:Nat→Prop) (w:World) (ρ:Name→Option Nat) (κ:Name→Nat) (h:Name→Option Blk):Prop where
 blk:∀n b,h n=some b→vJ S w ρ κ h n b
 inj:∀n m x,(h n).isSome→(h m).isSome→ρ n=some x→ρ m=some x→n=m
 dom:∀b,S b→b<w.heap.size
 env:Env S w
theorem vJ.mono {S S':Nat→Prop}{w w':World}{ρ ρ':Name→Option Nat}{κ κ':Name→Nat}{h h':Name→Option Blk}{n:Name}{b:Blk}
  (M:∀b,S b→S' b) (J:∀x,ρ n=some x→S' x→S x) (hw:∀b,S b→w'.heap[b]? = w.heap[b]?)
  (hb:vJ S w ρ κ h n b) (hx:∀x,ρ n=some x→w'.heap[x]? = w.heap[x]?) (O:ρ' n=ρ n) (e2:κ' n=κ n)
  (hn:∀m,b.has m=true→fC ρ ρ' κ κ' h h' m):vJ S' w' ρ' κ' h' n b:=by
 cases b with
 | var c z =>
  obtain⟨x,cs,T,fr,F,h2,U,Y,G,h5,h6,I⟩:=hb;refine⟨x,cs,T,fr,by rw[O];exact F,by rw[hx x F];exact h2,U,fun H hs=>Y H (J _ F hs),fun H=>M _ (G H),by rw[e2];exact h5,h6,fun j L=>⟨(I j L).1,(I j L).2.mono M hw fun m hm=>hn m ?_⟩⟩;cases hc:l6 m c with
  |true=>simp[Blk.has,hc]
  |false=>rw[qF hc] at hm;cases hm
 | arr k l z =>
  obtain⟨h0,h⟩:=hb;refine⟨h0,?_⟩;rcases h with⟨F,h2⟩|⟨x,cs,T,fr,F,h2,U,Y,G,h5,h6,I⟩
  ·exact .inl ⟨by rw[O];exact F,h2⟩
  ·exact .inr ⟨x,cs,T,fr,by rw[O];exact F,by rw[hx x F];exact h2,U,fun H hs=>Y H (J _ F hs),fun H=>M _ (G H),by rw[e2];exact h5,h6,fun i j hi L=>⟨(I i j hi L).1,(I i j hi L).2.mono M hw⟩⟩
end
section
variable [Envs]
structure FSt where
 s:Nat→AV
 h:Name→Option Blk
structure Ctx where
 nt:Nat
 w0:World
 S0:Nat→Prop
 Mut:Nat→Prop
 ρ0:Nat→Option Nat:=fun _=>none
 κ0:Nat→Nat:=fun _=>0
 h0:Nat→Option Blk:=fun _=>none
structure OK (C:Ctx) (σ:FSt) (a:Act) (w:World) (S:Nat→Prop) (ρ:Name→Option Nat) (κ:Name→Nat):Prop where
 nt:a.tmps.size=C.nt
 defers:a.defers=[]
 slots:∀t,RV S w ρ κ σ.h (σ.s t) (a.tmps.getD t undef)
 hok:HOK S w ρ κ σ.h
 size:C.w0.heap.size≤w.heap.size
 old:∀b,b<C.w0.heap.size→¬C.Mut b→w.heap[b]? = C.w0.heap[b]?
 mine:∀n x,(σ.h n).isSome→ρ n=some x→C.w0.heap.size≤x∨C.Mut x
 S0:∀b,C.S0 b→S b
 Snew:∀b,S b→C.S0 b∨C.w0.heap.size≤b∨C.Mut b
 out:w.os=C.w0.os∧w.output=C.w0.output
 keep:∀j b,σ.h (.b j)=some b→ρ (.b j)=C.ρ0 j∧κ (.b j)=C.κ0 j∧∃b0,C.h0 j=some b0∧b0.same b
def upd (s:Nat→AV) (d:Option Nat) (x:AV):Nat→AV:=
 match d with
 |some d=>fun t=>if t=d then x else s t
 |none=>s
def hput (h:Name→Option Blk) (n:Name) (b:Option Blk):Name→Option Blk:=fun m=>if m=n then b else h m
theorem OK.put {C:Ctx}{σ:FSt}{a:Act}{w:World}{S:Nat→Prop}{ρ:Name→Option Nat}{κ:Name→Nat} (F:OK C σ a w S ρ κ) {x:AV}{v:Value}
  (I:RV S w ρ κ σ.h x v) {d:Option Nat} (G:∀d',d=some d'→d'<C.nt):OK C ⟨upd σ.s d x,σ.h⟩ (a.put d v) w S ρ κ:=by
 cases d with
 |none=>exact F
 | some d =>
  have G:=G d rfl;refine{F with nt:=by simp[Act.put,F.nt],defers:=by simp[Act.put,F.defers],slots:=fun t=>?_};simp only[upd,Act.put];by_cases H:t=d
  ·subst H;have:t<a.tmps.size:=by rw[F.nt];exact G
   simp only[if_true];have e:(a.tmps.setIfInBounds t v).getD t undef=v:=by simp[this]
   rw[e];exact I
  ·simp only[H,if_false]
   have e:(a.tmps.setIfInBounds d v).getD t undef=a.tmps.getD t undef:=by
    simp[Array.getElem?_setIfInBounds_ne (Ne.symm H)]
   rw[e];exact F.slots t
def Ext (w w':World):Prop:=w.heap.size≤w'.heap.size∧(∀b,b<w.heap.size→w'.heap[b]? = w.heap[b]?)∧w'.os=w.os∧w'.output=w.output
theorem Ext.refl (w:World):Ext w w:=⟨Nat.le_refl _,fun _ _=>rfl,rfl,rfl⟩
theorem Ext.of_heap {w w':World} (h:w'.heap=w.heap) (F:w'.os=w.os) (h2:w'.output=w.output):Ext w w':=⟨by rw[h];exact Nat.le_refl _,fun _ _=>by rw[h],F,h2⟩
theorem Ext.push (w:World) (o:Obj):Ext w {w with heap:=w.heap.push o}:=
 ⟨by simp,fun b F=>by simp[Array.getElem?_push,Nat.ne_of_lt F],rfl,rfl⟩
theorem Ext.trans {w G H:World} (h:Ext w G) (h':Ext G H):Ext w H:=
 ⟨Nat.le_trans h.1 h'.1,fun b F=>by rw[h'.2.1 b (Nat.lt_of_lt_of_le F h.1),h.2.1 b F],h'.2.2.1.trans h.2.2.1,h'.2.2.2.trans h.2.2.2⟩
theorem fC.refl (ρ:Name→Option Nat) (κ:Name→Nat) (h:Name→Option Blk) (n:Name):fC ρ ρ κ κ h h n:=
 fun F G=>⟨rfl,rfl,F,G,F.same_refl⟩
theorem HOK.lt {S:Nat→Prop}{w:World}{ρ:Name→Option Nat}{κ:Name→Nat}{h:Name→Option Blk} (I:HOK S w ρ κ h) {n:Name}{x:Nat}
  (L:(h n).isSome) (H:ρ n=some x):x<w.heap.size:=by
 obtain⟨b,J⟩:=Option.isSome_iff_exists.1 L;have:=I.blk n b J
 have G:∀{x:Nat}{cs:Array Value}{T:TypeId}{fr:Nat×Nat},w.heap[x]? = some (.cells cs T fr)→x<w.heap.size:=by
  intro x cs T fr h;rcases Nat.lt_or_ge x w.heap.size with h'|h'
  ·exact h'
  ·simp[Array.getElem?_eq_none h'] at h
 cases b with
 | var c z =>
  obtain⟨y,cs,T,fr,F,h2,_⟩:=this;obtain rfl:=Option.some.inj (F.symm.trans H);exact G h2
 | arr k l z =>
  obtain⟨_,⟨F,_⟩|⟨y,cs,T,fr,F,h2,_⟩⟩:=this
  ·rw[F] at H;cases H
  ·obtain rfl:=Option.some.inj (F.symm.trans H);exact G h2
theorem HOK.ext {S:Nat→Prop}{w w':World}{ρ:Name→Option Nat}{κ:Name→Nat}{h:Name→Option Blk} (F:HOK S w ρ κ h) (H:Ext w w'):HOK S w' ρ κ h where
 blk n b G:=(F.blk n b G).mono (fun _ h=>h) (fun _ _ h=>h) (fun b G=>H.2.1 b (F.dom b G)) (fun x I=>H.2.1 x (F.lt (by simp[G]) I)) rfl rfl (fun m _=>fC.refl _ _ _ _)
 inj:=F.inj
 dom b G:=Nat.lt_of_lt_of_le (F.dom b G) H.1
 env:=F.env.mono (fun _ h=>h) fun b G=>H.2.1 b (F.dom b G)
theorem OK.ext {C:Ctx}{σ:FSt}{a:Act}{w w':World}{S:Nat→Prop}{ρ:Name→Option Nat}{κ:Name→Nat} (hok:OK C σ a w S ρ κ) (he:Ext w w'):OK C σ a w' S ρ κ where
 nt:=hok.nt
 defers:=hok.defers
 slots t:=(hok.slots t).mono (fun _ h=>h) (fun b hb=>he.2.1 b (hok.hok.dom b hb)) (fun n _=>fC.refl _ _ _ _)
 hok:=hok.hok.ext he
 size:=Nat.le_trans hok.size he.1
 old b hb hm:=by rw[he.2.1 b (Nat.lt_of_lt_of_le hb hok.size)];exact hok.old b hb hm
 mine:=hok.mine
 S0:=hok.S0
 Snew:=hok.Snew
 out:=⟨he.2.2.1.trans hok.out.1,he.2.2.2.trans hok.out.2⟩
 keep:=hok.keep
def jM (n:Name) (σ:FSt):Prop:=(σ.h n=none∧∀j,n≠.b j)∧(∀t,(σ.s t).has n=false)∧∀m b,σ.h m=some b→b.has n=false
theorem OK.add {C:Ctx}{σ:FSt}{a:Act}{w w':World}{S:Nat→Prop}{ρ:Name→Option Nat}{κ:Name→Nat} (hok:OK C σ a w S ρ κ) (he:Ext w w')
  {n:Name} (hf:jM n σ) {b:Blk}{ox:Option Nat}{kn:Nat} (L:∀x,ox=some x→w.heap.size≤x)
  (hb:∀ρ' κ' h',ρ' n=ox→κ' n=kn→(∀m,m≠n→fC ρ ρ' κ κ' σ.h h' m)→vJ S w' ρ' κ' h' n b) :
  OK C ⟨σ.s,hput σ.h n (some b)⟩ a w' S (fun m=>if m=n then ox else ρ m) (fun m=>if m=n then kn else κ m):=by
 have hn:∀m,m≠n→fC ρ (fun m=>if m=n then ox else ρ m) κ (fun m=>if m=n then kn else κ m) σ.h (hput σ.h n (some b)) m:=by
  intro m M b' Y;simp only[hput,M,if_false] at Y⊢;exact⟨trivial,trivial,b',Y,b'.same_refl⟩
 have F:=hok.ext he
 have J:∀j c,hput σ.h n (some b) (.b j)=some c→(if Name.b j=n then ox else ρ (.b j))=C.ρ0 j∧(if Name.b j=n then kn else κ (.b j))=C.κ0 j∧∃b0,C.h0 j=some b0∧b0.same c:=by
  intro j c I;have e:Name.b j≠n:=fun e=>hf.1.2 j e.symm;simp only[hput,e,if_false] at I⊢;exact hok.keep j c I
 refine{F with slots:=fun t=>?_,hok:=⟨fun m c I=>?_,fun m m' x G h2 O U=>?_,F.hok.dom,F.hok.env⟩,mine:=fun m x G h2=>?_,keep:=J}
 ·refine(F.slots t).mono (fun _ h=>h) (fun _ _=>rfl) fun m M=>hn m ?_;rintro rfl;rw[hf.2.1 t] at M;cases M
 ·by_cases H:m=n
  ·subst H;simp only[hput,if_true] at I;obtain rfl:=Option.some.inj I;exact hb _ _ _ (by simp) (by simp) hn
  ·simp only[hput,H,if_false] at I;refine(F.hok.blk m c I).mono (fun _ h=>h) (fun _ _ h=>h) (fun _ _=>rfl) (fun _ _=>rfl) (by simp[H]) (by simp[H]) fun m' ha=>hn m' ?_;rintro rfl;rw[hf.2.2 m c I] at ha;cases ha
 ·have hd:∀m x,m≠n→(hput σ.h n (some b) m).isSome→(if m=n then ox else ρ m)=some x→x<w.heap.size:=by
   intro m x M G h2;simp only[hput,M,if_false] at G h2;exact hok.hok.lt G h2
  by_cases e1:m=n<;>by_cases e2:m'=n
  ·rw[e1,e2]
  ·have:=hd m' x e2 h2 U;simp only[e1,if_true] at O;have:=L _ O;omega
  ·have:=hd m x e1 G O;simp only[e2,if_true] at U;have:=L _ U;omega
  ·simp only[hput,e1,e2,if_false] at G h2 O U;exact hok.hok.inj m m' x G h2 O U
 ·by_cases e:m=n
  ·simp only[e,if_true] at h2;exact .inl (Nat.le_trans hok.size (L _ h2))
  ·simp only[hput,e,if_false] at G h2;exact hok.mine m x G h2
/-! ## operands -/
def AV.ofValue:Value→AV
 |.agg cs=>.agg (cs.toList.map fun x=>.v x)
 |x=>.v x
def evO (s:Nat→AV):Operand→AV
 |.tmp t=>s t
 |.const v=>.ofValue v
 |.global _=>.junk
 |.func f=>.fn f []
theorem aII {S:Nat→Prop}{w:World} (cs:Array Value):RC S w (.agg (cs.toList.map fun x=>.v x)) (.agg cs):=by
 refine .agg _ _ (by simp) fun j F=>?_;simp only[List.length_map,Array.length_toList] at F;simp[List.getD,F];exact .v _
theorem OK.ev {C:Ctx}{σ:FSt}{a:Act}{w:World}{S:Nat→Prop}{ρ:Name→Option Nat}{κ:Name→Nat} (F:OK C σ a w S ρ κ) (x:Operand) :
  RV S w ρ κ σ.h (evO σ.s x) (a.eval x):=by
 cases x with
 |tmp t=>exact F.slots t
 |const v=>cases v<;>first|exact .clo (aII _)|exact .clo (.v _)
 |global g=>exact .junk _
 |func f=>exact .fn f [] #[] rfl (by simp)
end
section
variable [Envs]
inductive AOp where
 |mv (x:Operand)
 |pick (c a b:Operand)
 |load (g:Bool) (k:Nat) (a:Operand)
 |fieldAddr (off:Nat) (x:Operand)
 |loadV (g:Bool) (k:Nat) (a:Operand)
 |fieldV (off:Nat) (x:Operand)
 |field (g:Bool) (off k:Nat) (x:Operand)
 |idxSl (k:Nat) (x i:Operand)
 |idxArr (n k:Nat) (x i:Operand)
 |idxAgg (g:Bool) (n k:Nat) (x i:Operand)
 |idxStr (x i:Operand)
 |bin (op:BinOp) (x y:Operand)
 |binS (op:BinOp) (x y:Operand)
 |binB (op:BinOp) (x y:Operand)
 |un (op:UnOp) (x:Operand)
 |conv (k:IntKind) (x:Operand)
 |b2s (x:Operand)
 |eqA (neg:Bool) (ks:List Nat) (x y:Operand)
 |idxB (x y:Operand)
 |len (x:Operand)
 |lenS (x:Operand)
 |lenC (n:Nat)
 |slc (k:Nat) (x:Operand) (lo hi:Option Operand)
 |sstr (x:Operand) (lo hi:Option Operand)
 |nilc (x:Operand)
 |extract (x:Operand) (i:Nat)
 |build (z:List AV) (parts:List (Nat×Nat×Operand))
 |mkfn (f:FuncId) (caps:List Operand)
 |mm (mx:Bool) (x y:Operand)
 |box (x:Operand)
 |alloc (z:List AV)
 |bslice (k n:Nat) (z:List AV) (parts:List (Nat×Operand))
 |mk (k bytes:Nat) (z:List AV) (n:Operand)
 |call (f:Operand) (args:List Operand) (bor:List Nat)
 |store (k:Nat) (a x:Operand)
 |append (k bytes:Nat) (a x:Operand)
 |appendC (k bytes:Nat) (a x:Operand)
 |bsliceC (k n:Nat) (z:List AV) (parts:List (Nat×Operand))
 |clr (k:Nat) (z:List AV) (x:Operand)
 deriving Inhabited
def nM (h:Name→Option Blk):AV→Bool
 |.v x=>x.oneCell'
 |.sl _ _=>true
 |.ro _=>true
 |.fn _ _=>true
 |.loc n _ _=>match h n with|some (.arr _ _ _)=>true|_=>false
 |.ptr n _ _=>(h n).isSome
 |_=>false
def jL (h:Name→Option Blk):AV→Option (List AV)
 |.agg c=>if c.all (nM h) then some c else none
 |x=>if nM h x then some [x] else none
def AV.mk (g:Bool) (c:List AV):AV:=if g then .agg c else c.headD .junk
def Blk.row:Blk→Nat→List AV
 |.var c _,0=>c
 |.var _ _,_+1=>[]
 |.arr _ l _,e=>l.getD e []
def nW (op:BinOp) (k:IntKind) (a b:Int):Int:=
 let x:=BitVec.ofInt k.bits a
 let y:=BitVec.ofInt k.bits b
 k.wrap (match op with|.and=>x &&& y|.or=>x ||| y|.xor=>x ^^^ y|_=>x &&& ~~~y).toNat
def aFb (op:BinOp) (k k':IntKind) (a b:Int) (K:AV→Prop):Prop:=
 match op with
 |.add=>k=k'∧K (.v (.int k (k.wrap (a+b))))
 |.sub=>k=k'∧K (.v (.int k (k.wrap (a-b))))
 |.mul=>k=k'∧K (.v (.int k (k.wrap (a*b))))
 |.quo=>(k=k'∧b≠0)∧K (.v (.int k (k.wrap (a.tdiv b))))
 |.rem=>(k=k'∧b≠0)∧K (.v (.int k (a.tmod b)))
 |.eql=>k=k'∧K (.v (.bool (a==b)))
 |.neq=>k=k'∧K (.v (.bool (a != b)))
 |.lss=>k=k'∧K (.v (.bool (a<b)))
 |.leq=>k=k'∧K (.v (.bool (a≤b)))
 |.gtr=>k=k'∧K (.v (.bool (a>b)))
 |.geq=>k=k'∧K (.v (.bool (a≥b)))
 |.shl=>0≤b∧K (.v (.int k (k.wrap (a*2 ^ (min b.toNat k.bits)))))
 |.shr=>0≤b∧K (.v (.int k (a.fdiv (2 ^ (min b.toNat k.bits)))))
 |.and=>k=k'∧K (.v (.int k (nW .and k a b)))
 |.or=>k=k'∧K (.v (.int k (nW .or k a b)))
 |.xor=>k=k'∧K (.v (.int k (nW .xor k a b)))
 |.andNot=>k=k'∧K (.v (.int k (nW .andNot k a b)))
def aAT (op:BinOp) (x y:ByteArray) (K:AV→Prop):Prop:=
 match op with
 |.add=>x.size+y.size≤9223372036854775807∧K (.v (.string (x++y)))
 |.eql=>K (.v (.bool (x.toList==y.toList)))
 |.neq=>K (.v (.bool (!(x.toList==y.toList))))
 |_=>False
def xY (op:BinOp) (x y:Bool) (K:AV→Prop):Prop:=
 match op with
 |.eql=>K (.v (.bool (x==y)))
 |.neq=>K (.v (.bool (!(x==y))))
 |_=>False
def lay:List AV→Nat→List AV→List AV
 |cs,_,[]=>cs
 |cs,o,x::r=>lay (cs.set o x) (o+1) r
def layAll (ev:Operand→AV) (h:Name→Option Blk):List AV→List (Nat×Nat×Operand)→(List AV→Prop)→Prop
 |cs,[],K=>K cs
 | cs,(o,n,x)::r,K=>match jL h (ev x) with
  |some c=>(c.length=n∧o+n≤cs.length)∧layAll ev h (lay cs o c) r K
  |none=>False
def eqV:Nat→Value→Value→Option Bool
 |0,.int k a,.int k' b=>if k=k' then some (a==b) else none
 |1,.bool a,.bool b=>some (a==b)
 |2,.string a,.string b=>some (a.toList==b.toList)
 |_,_,_=>none
def eqC:List Nat→List AV→List AV→Option Bool
 | [],[],[]=>some true
 | k::ks,.v x::r,.v y::s=>match eqV k x y,eqC ks r s with
  |some a,some b=>some (a&&b)
  |_,_=>none
 |_,_,_=>none
def pO (k:Nat) (h:Name→Option Blk):AV→Option (List (List AV))
 |.sl k' l=>if k'=k then some l else none
 | .loc n off len=>match h n with
  |some (.arr k' l _)=>if k'=k then some ((l.drop off).take len) else none
  |_=>none
 |.v (.slice none 0 0)=>some []
 |_=>none
inductive Tag {α:Type} (a:α):Type where
 |x
 |y
def Br (b:Bool) (A B:Prop) (_:Tag (A,B)):Prop:=(b=true→A)∧(b=false→B)
theorem aKV {A B:Prop}{t:Tag (A,B)}:Br true A B t↔A:=⟨fun h=>h.1 rfl,fun h=>⟨fun _=>h,fun h=>(by cases h)⟩⟩
theorem aJO {A B:Prop}{t:Tag (A,B)}:Br false A B t↔B:=⟨fun h=>h.2 rfl,fun h=>⟨fun h=>(by cases h),fun _=>h⟩⟩
theorem Br.mk {b:Bool}{A B:Prop}{t:Tag (A,B)} (F:b=true→A) (h2:b=false→B):Br b A B t:=⟨F,h2⟩
theorem Br.get {b:Bool}{A B:Prop}{t:Tag (A,B)} (h:Br b A B t):(b=true→A)∧(b=false→B):=h
def BrW (b want:Bool) (A B:Prop):Prop:=match want with
 |true=>Br b A B .x
 |false=>Br b B A .x
theorem jR {b F:Bool}{A B:Prop}:BrW b F A B↔(b=F→A)∧(b = !F→B):=by
 cases F
 ·exact⟨fun h=>⟨h.2,h.1⟩,fun h=>⟨h.2,h.1⟩⟩
 ·exact⟨fun h=>⟨h.1,h.2⟩,fun h=>⟨h.1,h.2⟩⟩
def qU:List (List AV)→Option (List Int)
 | []=>some []
 | [.v (.int .u8 n)]::r=>match qU r with
  |some l=>some (n::l)
  |none=>none
 |_=>none
def xO (s:ByteArray) (c:Int):Int:=match(List.range s.size).find? fun i=>s[i]! == c.toNat.toUInt8 with
 |some i=>i
 |none=>-1
def aBE (ns:List Int):ByteArray:=⟨(ns.map fun n=>UInt8.ofNat n.toNat).toArray⟩
def qQ:AV→Bool
 |.v _=>true
 |_=>false
def rd (ev:Operand→AV) (h:Name→Option Blk) (K:AV→Prop):AOp→Prop
 |.mv x=>K (ev x)
 | .pick c a b=>match ev c with
  |.v (.bool t)=>Br t (K (ev a)) (K (ev b)) .x
  |_=>False
 | .load g k a=>match ev a with
  |.ro c=>k≤c.length∧K (.mk g (c.take k))
  | .ptr n e c=>match h n with
   |some b=>c+k≤(b.row e).length∧K (.mk g (((b.row e).drop c).take k))
   |none=>False
  |_=>False
 | .fieldAddr off x=>match ev x with
  | .ptr n e c=>match h n with
   |some _=>K (.ptr n e (c+off))
   |none=>False
  |.ro c=>off≤c.length∧K (.ro (c.drop off))
  |_=>False
 | .loadV g k a=>match ev a with
  | .ptr n e c=>match h n with
   |some (.var cs z)=>(c+k≤((Blk.var cs z).row e).length∧(!g||((((Blk.var cs z).row e).drop c).take k).all qQ)=true)∧K (.mk g ((((Blk.var cs z).row e).drop c).take k))
   |_=>False
  |_=>False
 | .fieldV off x=>match ev x with
  | .ptr n e c=>match h n with
   |some (.var _ _)=>K (.ptr n e (c+off))
   |_=>False
  |_=>False
 | .field g off k x=>match ev x with
  |.agg c=>off+k≤c.length∧K (.mk g ((c.drop off).take k))
  |_=>False
 | .idxSl k x i=>match ev x,ev i with
  |.sl k' l,.v (.int _ i)=>(k'=k∧0≤i∧i<l.length)∧K (.ro (l.getD i.toNat []))
  | .loc n off len,.v (.int _ i)=>match h n with
   |some (.arr k' _ _)=>(k'=k∧0≤i∧i<len)∧K (.ptr n (off+i.toNat) 0)
   |_=>False
  |_,_=>False
 | .idxArr n k x i=>match ev x,ev i with
  |.ro c,.v (.int _ i)=>(0≤i∧i<n∧i.toNat*k≤c.length)∧K (.ro (c.drop (i.toNat*k)))
  | .ptr m e c,.v (.int _ i)=>match h m with
   |some _=>(0≤i∧i<n)∧K (.ptr m e (c+i.toNat*k))
   |none=>False
  |_,_=>False
 | .idxAgg g n k x i=>match ev x,ev i with
  |.agg c,.v (.int _ i)=>(0≤i∧i<n∧i.toNat*k+k≤c.length)∧K (.mk g ((c.drop (i.toNat*k)).take k))
  |_,_=>False
 | .idxStr x i=>match ev x,ev i with
  |.v (.string s),.v (.int _ i)=>(0≤i∧i<s.size)∧K (.v (.int .u8 (s.data.toList.getD i.toNat 0).toNat))
  |_,_=>False
 | .bin op x y=>match ev x,ev y with
  |.v (.int k a),.v (.int k' b)=>aFb op k k' a b K
  |_,_=>False
 | .binS op x y=>match ev x,ev y with
  |.v (.string a),.v (.string b)=>aAT op a b K
  |_,_=>False
 | .binB op x y=>match ev x,ev y with
  |.v (.bool a),.v (.bool b)=>xY op a b K
  |_,_=>False
 | .un op x=>match op,ev x with
  |.not,.v (.bool b)=>K (.v (.bool (!b)))
  |.neg,.v (.int k n)=>K (.v (.int k (k.wrap (0-n))))
  |.xor,.v (.int k n)=>K (.v (.int k (nW .xor k (if k.signed then -1 else k.max) n)))
  |_,_=>False
 | .conv k x=>match ev x with
  |.v (.int _ n)=>K (.v (.int k (k.wrap n)))
  |_=>False
 | .len x=>match ev x with
  |.sl _ l=>K (.v (.int .i64 l.length))
  | .loc n _ len=>match h n with
   |some (.arr _ _ _)=>K (.v (.int .i64 len))
   |_=>False
  |.v (.slice _ n _)=>K (.v (.int .i64 n))
  |_=>False
 | .lenS x=>match ev x with
  |.v (.string s)=>K (.v (.int .i64 s.size))
  |_=>False
 |.lenC n=>K (.v (.int .i64 n))
 | .slc k x lo hi=>match ev x with
  | .sl k' l =>
   let f:Int→Int→Prop:=fun lo hi=>(k'=k∧0≤lo∧lo≤hi∧hi≤l.length)∧K (.sl k ((l.take hi.toNat).drop lo.toNat))
   match lo.map ev,hi.map ev with
   |none,none=>f 0 l.length
   |some (.v (.int _ lo)),none=>f lo l.length
   |none,some (.v (.int _ hi))=>f 0 hi
   |some (.v (.int _ lo)),some (.v (.int _ hi))=>f lo hi
   |_,_=>False
  | .loc n off len=>match h n with
   | some (.arr k' _ _) =>
    let f:Int→Int→Prop:=fun lo hi=>(k'=k∧0≤lo∧lo≤hi∧hi≤len)∧K (.loc n (off+lo.toNat) (hi-lo).toNat)
    match lo.map ev,hi.map ev with
    |none,none=>f 0 len
    |some (.v (.int _ lo)),none=>f lo len
    |none,some (.v (.int _ hi))=>f 0 hi
    |some (.v (.int _ lo)),some (.v (.int _ hi))=>f lo hi
    |_,_=>False
   |_=>False
  |_=>False
 | .sstr x lo hi=>match ev x with
  | .v (.string s) =>
   let f:Int→Int→Prop:=fun lo hi=>(0≤lo∧lo≤hi∧hi≤s.size)∧K (.v (.string (s.extract lo.toNat hi.toNat)))
   match lo.map ev,hi.map ev with
   |none,none=>f 0 s.size
   |some (.v (.int _ lo)),none=>f lo s.size
   |none,some (.v (.int _ hi))=>f 0 hi
   |some (.v (.int _ lo)),some (.v (.int _ hi))=>f lo hi
   |_,_=>False
  |_=>False
 | .nilc x=>match ev x with
  |.ro c=>K (.ro c)
  | .ptr n e c=>match h n with
   |some _=>K (.ptr n e c)
   |none=>False
  |.fn f c=>K (.fn f c)
  |_=>False
 | .extract x i=>match ev x with
  |.tup c=>i<c.length∧K (c.getD i .junk)
  |_=>False
 |.build z parts=>layAll ev h z parts fun cs=>K (.agg cs)
 |.mkfn f caps=>K (.fn f (caps.map ev))
 | .mm mx x y=>match ev x,ev y with
  |.v (.int k a),.v (.int _ b)=>K (.v (.int k (if mx then(if b>a then b else a) else(if b<a then b else a))))
  |_,_=>False
 | .b2s x=>match pO 1 h (ev x) with
  | some l=>match qU l with
   |some ns=>K (.v (.string (aBE ns)))
   |none=>False
  |none=>False
 | .eqA neg ks x y=>match ev x,ev y with
  | .agg c,.agg c'=>match eqC ks c c' with
   |some b=>K (.v (.bool (if neg then !b else b)))
   |none=>False
  |_,_=>False
 | .idxB x y=>match ev x,ev y with
  |.v (.string s),.v (.int .u8 c)=>K (.v (.int .i64 (xO s c)))
  |_,_=>False
 |.box _|.alloc _|.bslice .. | .mk .. | .call .. | .store .. | .append .. | .appendC .. | .bsliceC .. | .clr ..=>False
theorem aID {ev:Operand→AV}{h:Name→Option Blk}{K:AV→Prop}{g:Bool}{k:Nat}{a:Operand} (F:rd ev h K (.loadV g k a)):rd ev h K (.load g k a):=by
 simp only[rd] at F;split at F
 ·rename_i n e c H;split at F
  ·rename_i cs z G;simp only[rd,H,G];exact⟨F.1.1,F.2⟩
  ·exact F.elim
 ·exact F.elim
theorem aHp {ev:Operand→AV}{h:Name→Option Blk}{K:AV→Prop}{off:Nat}{x:Operand} (F:rd ev h K (.fieldV off x)):rd ev h K (.fieldAddr off x):=by
 simp only[rd] at F;split at F
 ·rename_i n e c H;split at F
  ·rename_i cs z G;simp only[rd,H,G];exact F
  ·exact F.elim
 ·exact F.elim
/-! ## resolving -/
def jS (P:Program) (t:TypeId):Option Nat:=(P.info? t).map (·.size)
def iO (P:Program) (t:TypeId):Option Bool:=
 match P.underlying t with
 |some (.struct _)|some (.array _ _)=>some true
 |some _=>some false
 |none=>none
def uU (P:Program) (t:TypeId):Option (Bool×Nat):=
 match iO P t,jS P t with
 |some true,some n=>some (true,n)
 |some false,some _=>some (false,1)
 |_,_=>none
theorem lU {P:Program}{t:TypeId}{b:Bool} (h:iO P t=some b) (w:World):(isAgg t).run P w=.ok b w:=by
 unfold iO at h;unfold isAgg underlying;cases hu:P.underlying t with
 |none=>simp[hu] at h
 |some d=>cases d<;>simp_all
theorem run_sizeOf {P:Program}{t:TypeId}{n:Nat} (h:jS P t=some n) (w:World):(sizeOf t).run P w=.ok n w:=by
 unfold jS at h;unfold sizeOf typeInfo;cases hi:P.info? t with
 |none=>simp[hi] at h
 |some i=>simp_all
theorem run_underlying {P:Program}{t:TypeId}{d:TypeDesc} (h:P.underlying t=some d) (w:World):(underlying t).run P w=.ok d w:=by
 unfold underlying;simp[h]
end
section
variable [Envs]
section inv
variable {S:Nat→Prop}{w:World}{ρ:Name→Option Nat}{κ:Name→Nat}{h:Name→Option Blk}{v:Value}
theorem bM {x:Value} (F:RV S w ρ κ h (.v x) v):v=x:=by
 cases F with|clo F=>cases F;rfl
theorem pF {c:List AV} (F:RV S w ρ κ h (.ro c) v):RC S w (.ro c) v:=by
 cases F with|clo F=>exact F
theorem sI {k:Nat}{l:List (List AV)} (F:RV S w ρ κ h (.sl k l) v):RC S w (.sl k l) v:=by
 cases F with|clo F=>exact F
theorem iP {n:Name}{off len:Nat} (F:RV S w ρ κ h (.loc n off len) v):wY ρ κ h n off len v:=by
 cases F with
 |clo F=>cases F
 |loc _ _ _ _ hv=>exact hv
theorem eD {n:Name}{e c:Nat} (F:RV S w ρ κ h (.ptr n e c) v):aFf ρ h n e c v:=by
 cases F with
 |clo F=>cases F
 |ptr _ _ _ _ hv=>exact hv
theorem gL {c:List AV} (F:RV S w ρ κ h (.agg c) v):∃vs,v=.agg vs∧c.length=vs.size∧∀j,j<c.length→RV S w ρ κ h (c.getD j .junk) (vs.getD j undef):=by
 cases F with
 |clo F=>cases F with|agg _ vs hl hr=>exact⟨vs,rfl,hl,fun j G=>.clo (hr j G)⟩
 |agg _ vs hl hr=>exact⟨vs,rfl,hl,hr⟩
theorem nZ {c:List AV} (F:RV S w ρ κ h (.tup c) v):∃vs,v=.tuple vs∧c.length=vs.size∧∀j,j<c.length→RV S w ρ κ h (c.getD j .junk) (vs.getD j undef):=by
 cases F with
 |clo F=>cases F with|tup _ vs hl hr=>exact⟨vs,rfl,hl,fun j G=>.clo (hr j G)⟩
 |tup _ vs hl hr=>exact⟨vs,rfl,hl,hr⟩
theorem aB1 {f:FuncId}{c:List AV} (F:RV S w ρ κ h (.fn f c) v):∃vs,v=.func (.func f) #[] vs∧c.length=vs.size∧∀j,j<c.length→RV S w ρ κ h (c.getD j .junk) (vs.getD j undef):=by
 cases F with
 |clo F=>cases F with|fn _ _ vs hl hr=>exact⟨vs,rfl,hl,fun j G=>.clo (hr j G)⟩
 |fn _ _ vs hl hr=>exact⟨vs,rfl,hl,hr⟩
end inv
theorem cell_of_row {w:World}{x off:Nat}{cs:Array Value}{T:TypeId}{fr:Nat×Nat} (G:w.heap[x]? = some (.cells cs T fr)) (F:off<cs.size) :
  w.cell? ⟨x,off,none⟩=some (cs.getD off undef):=by
 simp[World.cell?,G,F]
theorem addr_add (x off j:Nat):(⟨x,off,none⟩:Addr).add j=⟨x,off+j,none⟩:=by
 unfold Addr.add;split
 ·subst_vars;rfl
 ·rfl
theorem HOK.cells {S:Nat→Prop}{w:World}{ρ:Name→Option Nat}{κ:Name→Nat}{h:Name→Option Blk} (M:HOK S w ρ κ h) {n:Name}{b:Blk} (hb:h n=some b)
  {x:Nat} (L:ρ n=some x) {e j:Nat} (F:j<(b.row e).length) :
  ∃u,w.cell? ⟨x,e*b.k+j,none⟩=some u∧u.oneCell'=true∧RV S w ρ κ h ((b.row e).getD j .junk) u:=by
 have O:=M.blk n b hb;cases b with
 | var c z =>
  obtain⟨y,cs,T,fr,G,h2,_,_,_,_,Y,H⟩:=O;obtain rfl:=Option.some.inj (G.symm.trans L);cases e with
  | zero =>
   simp only[Blk.row,Blk.k,Nat.mul_zero,Nat.zero_add] at F⊢;exact⟨_,cell_of_row h2 (by omega),(H j F).1,(H j F).2⟩
  |succ e=>simp[Blk.row] at F
 | arr k l z =>
  obtain⟨U,⟨G,h2⟩|⟨y,cs,T,fr,G,h2,_,_,_,_,Y,H⟩⟩:=O
  ·rw[G] at L;cases L
  ·obtain rfl:=Option.some.inj (G.symm.trans L);simp only[Blk.row,Blk.k] at F⊢
   have J:e<l.length:=by
    rcases Nat.lt_or_ge e l.length with h'|h'
    ·exact h'
    ·simp[List.getD,List.getElem?_eq_none h'] at F
   have I:j<k:=by rw[←U e J];exact F
   have:e*k+j<cs.size:=by
    have:(e+1)*k≤l.length*k:=Nat.mul_le_mul_right k J;rw[Nat.succ_mul] at this;omega
   exact⟨_,cell_of_row h2 this,(H e j J I).1,.clo (H e j J I).2⟩
theorem aAa {P:Program}{T:TypeId}{k:Nat} (h:uU P T=some (false,k)):k=1:=by
 unfold uU at h;split at h<;>simp_all
theorem aAZ {P:Program}{T:TypeId}{g:Bool}{k:Nat} (F:uU P T=some (g,k)) {w:World}{x off:Nat} (f:Nat→Value)
  (H:∀j,j<k→w.cell? ⟨x,off+j,none⟩=some (f j)) :
  (loadVar T ⟨x,off,none⟩).run P w=.ok (if g then .agg ((List.range k).map f).toArray else f 0) w:=by
 unfold uU at F;split at F
 ·rename_i n G h2;simp only[Option.some.injEq,Prod.mk.injEq] at F;obtain⟨rfl,rfl⟩:=F;simp[loadVar,lU G,run_sizeOf h2,run_loadCells w ⟨x,off,none⟩ n f (fun j I=>by rw[addr_add];exact H j I)]
 ·rename_i n G h2;simp only[Option.some.injEq,Prod.mk.injEq] at F;obtain⟨rfl,rfl⟩:=F;have:=H 0 (by omega);simp only[Nat.add_zero] at this;simp[loadVar,lU G,this]
 ·cases F
theorem aGu {S:Nat→Prop}{w:World}{ρ:Name→Option Nat}{κ:Name→Nat}{h:Name→Option Blk}{g:Bool}{k:Nat}{c:List AV}{f:Nat→Value} (H:g=false→k=1)
  (F:c.length=k) (G:∀j,j<k→RV S w ρ κ h (c.getD j .junk) (f j)):RV S w ρ κ h (.mk g c) (if g then .agg ((List.range k).map f).toArray else f 0):=by
 cases g with
 | true =>
  simp only[AV.mk,if_true];refine .agg _ _ (by simp[F]) fun j I=>?_
  have:((List.range k).map f).toArray.getD j undef=f j:=by
   have:j<k:=by omega
   simp[this]
  rw[this];exact G j (by omega)
 | false =>
  obtain rfl:=H rfl;have:=G 0 (by omega)
  match c,F with
  | [x],_=>simpa[AV.mk] using this
def Ans (P:Program) (S:Nat→Prop) (w:World) (ρ:Name→Option Nat) (κ:Name→Nat) (h:Name→Option Blk) (K:AV→Prop) (s:Sem Value):Prop:=
 ∃x v,K x∧s.run P w=.ok v w∧RV S w ρ κ h x v
variable {P:Program}{C:Ctx}{σ:FSt}{a:Act}{w:World}{S:Nat→Prop}{ρ:Name→Option Nat}{κ:Name→Nat}{K:AV→Prop}
theorem aGB (I:OK C σ a w S ρ κ) {T:TypeId}{g:Bool}{k:Nat} (L:uU P T=some (g,k)) {x:Operand} (H:rd (evO σ.s) σ.h K (.load g k x)) :
  Ans P S w ρ κ σ.h K (Instr.loadAt T (a.eval x)):=by
 have J:=I.ev x;generalize a.eval x=va at J⊢;simp only[rd] at H;split at H
 ·rename_i c O;rw[O] at J;obtain⟨hk,M⟩:=H;cases pF J with
  | ro _ b off xs hS hcell ho Y =>
   refine⟨_,_,M,by simp only[Instr.loadAt,Instr.sureAddr,Sem.run_bind,Sem.run_pure,Result.andThen_ok];exact aAZ L xs (fun j G=>hcell j (by omega)),?_⟩;refine aGu (fun U=>aAa (U ▸ L)) (by simp;omega) fun j G=>?_;have e:(c.take k).getD j .junk=c.getD j .junk:=by simp[List.getD,G]
   rw[e];exact .clo (Y j (by omega))
 ·rename_i n e c O;rw[O] at J;split at H
  ·rename_i b hb;obtain⟨hk,M⟩:=H;obtain⟨y,hy,hd⟩:=eD J b hb;have F:=fun j (G:j<(b.row e).length)=>I.hok.cells hb hy (e:=e) (j:=j) G
   let f:Nat→Value:=fun j=>(w.cell? ⟨y,e*b.k+c+j,none⟩).getD undef
   have hf:∀j,j<k→w.cell? ⟨y,e*b.k+c+j,none⟩=some (f j):=fun j G=>by
    obtain⟨u,hu,_⟩:=F (c+j) (by omega);have ha:w.cell? ⟨y,e*b.k+c+j,none⟩=some u:=by rw[←hu,Nat.add_assoc]
    simp only[f,ha,Option.getD_some]
   refine⟨_,_,M,by subst hd;simp only[Instr.loadAt,Instr.sureAddr,Sem.run_bind,Sem.run_pure,Result.andThen_ok];exact aAZ L f hf,?_⟩;refine aGu (fun U=>aAa (U ▸ L)) (by simp;omega) fun j G=>?_;obtain⟨u,hu,_,Y⟩:=F (c+j) (by omega);have e2:(((b.row e).drop c).take k).getD j .junk=(b.row e).getD (c+j) .junk:=by simp[List.getD,G]
   have e3:f j=u:=by
    have:=hf j G;rw[Nat.add_assoc] at this;exact Option.some.inj (this.symm.trans hu)
   rw[e2,e3];exact Y
  ·exact H.elim
 ·exact H.elim
theorem aGy {c:List AV}{v:Value}{off:Nat} (G:off≤c.length) (h:RC S w (.ro c) v):∃x o,v=.pointer (some ⟨x,o,none⟩)∧RC S w (.ro (c.drop off)) (.pointer (some ⟨x,o+off,none⟩)):=by
 cases h with
 | ro _ x o xs hS hc hone hr =>
  refine⟨x,o,rfl,.ro _ x (o+off) (fun j=>xs (off+j)) hS (fun j F=>?_) (fun j F=>hone _ (by simp at F;omega)) fun j F=>?_⟩
  ·rw[Nat.add_assoc];exact hc _ (by simp at F;omega)
  ·have:=hr (off+j) (by simp at F;omega);simpa[List.getD] using this
def xV (P:Program) (s:TypeId) (i:Nat):Option Field:=
 match P.underlying s with
 |some (.struct fs)=>fs[i]?
 |_=>none
theorem aDz (M:OK C σ a w S ρ κ) {s:TypeId}{i:Nat}{f:Field}{n:Nat} (J:xV P s i=some f) (Y:jS P f.type=some n) (U:n≠0) {x:Operand}
  (G:rd (evO σ.s) σ.h K (.fieldAddr f.offset x)):Ans P S w ρ κ σ.h K (Instr.fieldAt s (a.eval x) i):=by
 have I:=M.ev x
 have F:∀b o,(Instr.fieldAt s (.pointer (some ⟨b,o,none⟩)) i).run P w=.ok (.pointer (some ⟨b,o+f.offset,none⟩)) w:=by
  intro b o;unfold xV at J;split at J
  ·rename_i fs hu;simp[Instr.fieldAt,run_underlying hu,J,Instr.sureAddr,fieldPlace,run_sizeOf Y,U,addr_add]
  ·cases J
 generalize a.eval x=va at I⊢;simp only[rd] at G;split at G
 ·rename_i m e c L;rw[L] at I;split at G
  ·rename_i b O;obtain⟨y,hy,rfl⟩:=eD I b O;refine⟨_,_,G,F _ _,.ptr _ _ _ _ fun b' H=>?_⟩;rw[O] at H;obtain rfl:=Option.some.inj H;exact⟨y,hy,by rw[Nat.add_assoc]⟩
  ·exact G.elim
 ·rename_i c L;rw[L] at I;obtain⟨y,o,rfl,hr⟩:=aGy G.1 (pF I);exact⟨_,_,G.2,F _ _,.clo hr⟩
 ·exact G.elim
theorem aIF (I:OK C σ a w S ρ κ) {s:TypeId}{i:Nat}{f:Field}{n:Nat}{g:Bool} (F:xV P s i=some f) (hn:jS P f.type=some n) (L:iO P f.type=some g) (G:g=false→n=1)
  {x:Operand} (H:rd (evO σ.s) σ.h K (.field g f.offset n x)):Ans P S w ρ κ σ.h K (Instr.field s (a.eval x) i):=by
 have J:=I.ev x;generalize a.eval x=va at J⊢;simp only[rd] at H;split at H
 ·rename_i c U;rw[U] at J;obtain⟨vs,rfl,hl,hr⟩:=gL J;unfold xV at F;split at F
  ·rename_i fs M;obtain⟨hk,O⟩:=H;refine⟨_,(if g then .agg ((List.range n).map fun j=>vs.getD (f.offset+j) undef).toArray else vs.getD (f.offset+0) undef),O,?_,?_⟩
   ·cases g with
    | true =>
     simp only[Instr.field,Sem.run_bind,run_underlying M,Result.andThen_ok,F,asAgg,Sem.run_pure,part,lU L,if_true,run_sizeOf hn];congr 2;apply Array.ext (by simp;omega);intro j G h2;simp at G h2;simp[show f.offset+j<vs.size by omega]
    | false =>
     have:=G rfl;simp[Instr.field,run_underlying M,F,asAgg,part,lU L,show f.offset<vs.size by omega]
   ·refine aGu G (by simp;omega) fun j Y=>?_;have:=hr (f.offset+j) (by omega);have e:((c.drop f.offset).take n).getD j .junk=c.getD (f.offset+j) .junk:=by simp[List.getD,Y]
    rw[e];exact this
  ·cases F
 ·exact H.elim
theorem aLy {k:Nat}{l:List (List AV)}{v:Value} (h:RC S w (.sl k l) v) {i:Nat} (hi:i<l.length) :
  ∃x off cap,v=.slice (some ⟨x,off,none⟩) l.length cap∧RC S w (.ro (l.getD i [])) (.pointer (some ⟨x,off+i*k,none⟩)):=by
 cases h with
 | sl _ _ base cap x off xs hb hc ho hr hk hcap =>
  have G:l≠[]:=by rintro rfl;simp at hi
  obtain⟨rfl,H⟩:=hb G;refine⟨x,off,cap,rfl,.ro _ x _ (fun j=>xs (i*k+j)) H (fun j F=>?_) (fun j F=>ho i j hi (by rw[←hk i hi];exact F)) fun j F=>hr i j hi (by rw[←hk i hi];exact F)⟩;rw[Nat.add_assoc];exact hc i j hi (by rw[←hk i hi];exact F)
theorem aIE (I:OK C σ a w S ρ κ) {t e:TypeId}{k:Nat} (hu:P.underlying t=some (.slice e)) (hk:jS P e=some k) {x i:Operand}
  (G:rd (evO σ.s) σ.h K (.idxSl k x i)):Ans P S w ρ κ σ.h K (Instr.indexAt t (a.eval x) (a.eval i)):=by
 have J:=I.ev x;have hi:=I.ev i;generalize a.eval x=va at J⊢;generalize a.eval i=vi at hi⊢;simp only[rd] at G;split at G
 ·rename_i k' l kk n U Y;rw[U] at J;rw[Y] at hi;obtain rfl:=bM hi;obtain⟨⟨rfl,L,M⟩,O⟩:=G;obtain⟨y,off,cap,rfl,hr⟩:=aLy (sI J) (i:=n.toNat) (by omega);refine⟨_,_,O,?_,.clo hr⟩;simp[Instr.indexAt,asIntOf,run_underlying hu,run_sizeOf hk,L,M,addr_add]
 ·rename_i m off len kk n U Y;rw[U] at J;rw[Y] at hi;obtain rfl:=bM hi;split at G
  ·rename_i k' l z hb;obtain⟨⟨rfl,L,M⟩,O⟩:=G;obtain⟨ha,base,cap,rfl,_,_,F,_⟩:=iP J _ _ _ hb;obtain⟨y,hy,rfl⟩:=F (by omega);refine⟨_,.pointer (some ⟨y,off*k'+n.toNat*k',none⟩),O,?_,.ptr _ _ _ _ fun b' H=>?_⟩
   ·simp[Instr.indexAt,asIntOf,run_underlying hu,run_sizeOf hk,L,M,addr_add]
   ·rw[hb] at H;obtain rfl:=Option.some.inj H;exact⟨y,hy,by simp[Blk.k,Nat.add_mul]⟩
  ·exact G.elim
 ·exact G.elim
theorem aHn (H:OK C σ a w S ρ κ) {t e:TypeId}{n k:Nat} (hu:P.underlying t=some (.array n e)) (hk:jS P e=some k) {x i:Operand}
  (F:rd (evO σ.s) σ.h K (.idxArr n k x i)):Ans P S w ρ κ σ.h K (Instr.indexAt t (a.eval x) (a.eval i)):=by
 have I:=H.ev x;have hi:=H.ev i;generalize a.eval x=va at I⊢;generalize a.eval i=vi at hi⊢;simp only[rd] at F;split at F
 ·rename_i c kk m O U;rw[O] at I;rw[U] at hi;obtain rfl:=bM hi;obtain⟨⟨J,L,h2⟩,M⟩:=F;obtain⟨y,o,rfl,hr⟩:=aGy h2 (pF I);refine⟨_,_,M,?_,.clo hr⟩;simp[Instr.indexAt,asIntOf,run_underlying hu,run_sizeOf hk,J,L,addr_add,Instr.sureAddr]
 ·rename_i nm e' c kk m O U;rw[O] at I;rw[U] at hi;obtain rfl:=bM hi;split at F
  ·rename_i b Y;obtain⟨⟨J,L⟩,M⟩:=F;obtain⟨y,hy,rfl⟩:=eD I b Y;refine⟨_,.pointer (some ⟨y,e'*b.k+c+m.toNat*k,none⟩),M,?_,.ptr _ _ _ _ fun b' G=>?_⟩
   ·simp[Instr.indexAt,asIntOf,run_underlying hu,run_sizeOf hk,J,L,addr_add,Instr.sureAddr]
   ·rw[Y] at G;obtain rfl:=Option.some.inj G;exact⟨y,hy,by rw[Nat.add_assoc]⟩
  ·exact F.elim
 ·exact F.elim
theorem aHo (G:OK C σ a w S ρ κ) {t e:TypeId}{n k:Nat}{g:Bool} (U:P.underlying t=some (.array n e)) (O:jS P e=some k) (M:iO P e=some g) (F:g=false→k=1) {x i:Operand}
  (I:rd (evO σ.s) σ.h K (.idxAgg g n k x i)):Ans P S w ρ κ σ.h K (Instr.index t (a.eval x) (a.eval i)):=by
 have J:=G.ev x;have hi:=G.ev i;generalize a.eval x=va at J⊢;generalize a.eval i=vi at hi⊢;simp only[rd] at I;split at I
 ·rename_i c kk m hc hn;rw[hc] at J;rw[hn] at hi;obtain rfl:=bM hi;obtain⟨⟨L,H,h2⟩,Y⟩:=I;obtain⟨vs,rfl,hl,hr⟩:=gL J;refine⟨_,(if g then .agg ((List.range k).map fun j=>vs.getD (m.toNat*k+j) undef).toArray else vs.getD (m.toNat*k+0) undef),Y,?_,?_⟩
  ·cases g with
   | true =>
    simp only[Instr.index,asIntOf,Sem.run_bind,Sem.run_pure,run_underlying U,Result.andThen_ok,L,H,and_self,if_true,run_sizeOf O,part,lU M];congr 2;apply Array.ext (by simp;omega);intro j H h2;simp at H h2;simp[show m.toNat*k+j<vs.size by omega]
   | false =>
    have:=F rfl;subst this;have:vs[m.toNat]? = some (vs.getD m.toNat undef):=by simp[show m.toNat<vs.size by omega]
    simp[Instr.index,asIntOf,run_underlying U,L,H,run_sizeOf O,part,lU M,show m.toNat<vs.size by omega]
  ·refine aGu F (by simp;omega) fun j hj=>?_;have:=hr (m.toNat*k+j) (by omega);have e:((c.drop (m.toNat*k)).take k).getD j .junk=c.getD (m.toNat*k+j) .junk:=by simp[List.getD,hj]
   rw[e];exact this
 ·exact I.elim
theorem aHm (G:OK C σ a w S ρ κ) {t:TypeId} (U:P.underlying t=some .string) {x i:Operand}
  (H:rd (evO σ.s) σ.h K (.idxStr x i)):Ans P S w ρ κ σ.h K (Instr.index t (a.eval x) (a.eval i)):=by
 have I:=G.ev x;have hi:=G.ev i;generalize a.eval x=va at I⊢;generalize a.eval i=vi at hi⊢;simp only[rd] at H;split at H
 ·rename_i s kk m M O;rw[M] at I;rw[O] at hi;obtain rfl:=bM hi;obtain rfl:=bM I;obtain⟨⟨J,Y⟩,L⟩:=H;refine⟨_,_,L,?_,.clo (.v _)⟩;have F:m.toNat<s.size:=by omega
  have e:s[m.toNat]? = some (s.data.toList.getD m.toNat 0):=by
   have:m.toNat<s.data.size:=F;rw[getElem?_pos s m.toNat F];simp;rw[getElem?_pos s.data m.toNat this];rfl
  simp[Instr.index,asIntOf,run_underlying U,J,e]
 ·exact H.elim
end
section
variable [Envs]
variable {P:Program}{C:Ctx}{σ:FSt}{a:Act}{w:World}{S:Nat→Prop}{ρ:Name→Option Nat}{κ:Name→Nat}{K:AV→Prop}
theorem aLv (I:OK C σ a w S ρ κ) {op:BinOp}{t:TypeId}{x y:Operand}
  (F:rd (evO σ.s) σ.h K (.bin op x y)):Ans P S w ρ κ σ.h K (do eqGuard op t x y (a.eval x) (a.eval y);binOp op t (a.eval x) (a.eval y)):=by
 have L:=I.ev x;have M:=I.ev y;generalize a.eval x=va at L⊢;generalize a.eval y=vb at M⊢;simp only[rd] at F;split at F
 ·rename_i k n Y m O U;rw[O] at L;rw[U] at M;obtain rfl:=bM L;obtain rfl:=bM M;have H:(eqGuard op t x y (.int k n) (.int Y m)).run P w=.ok () w:=by unfold eqGuard;cases op<;>simp
  unfold aFb at F;cases op<;>simp only at F
  case shl=>exact⟨_,_,F.2,by simp[H,binOp,Op.shift,show ¬m<0 by omega],.clo (.v _)⟩
  case shr=>exact⟨_,_,F.2,by simp[H,binOp,Op.shift,show ¬m<0 by omega],.clo (.v _)⟩
  case quo=>obtain⟨⟨rfl,J⟩,G⟩:=F;exact⟨_,_,G,by simp[H,binOp,Op.intDiv,J],.clo (.v _)⟩
  case rem=>obtain⟨⟨rfl,J⟩,G⟩:=F;exact⟨_,_,G,by simp[H,binOp,Op.intDiv,J],.clo (.v _)⟩
  all_goals(obtain⟨rfl,G⟩:=F;exact⟨_,_,G,by simp[H,binOp,Op.intArith,Op.intCmp,Op.intBits,nW],.clo (.v _)⟩)
 ·exact F.elim
theorem aJ9 (G:OK C σ a w S ρ κ) {op:BinOp}{t:TypeId}{x y:Operand}
  (F:rd (evO σ.s) σ.h K (.binS op x y)):Ans P S w ρ κ σ.h K (do eqGuard op t x y (a.eval x) (a.eval y);binOp op t (a.eval x) (a.eval y)):=by
 have I:=G.ev x;have J:=G.ev y;generalize a.eval x=va at I⊢;generalize a.eval y=vb at J⊢;simp only[rd] at F;split at F
 ·rename_i s O L M;rw[L] at I;rw[M] at J;obtain rfl:=bM I;obtain rfl:=bM J;have H:(eqGuard op t x y (.string s) (.string O)).run P w=.ok () w:=by unfold eqGuard;cases op<;>simp
  unfold aAT at F;cases op<;>simp only at F
  case add =>
   have U:IntKind.i64.max=9223372036854775807:=by decide
   exact⟨_,_,F.2,by simp[H,binOp,Op.stringOp];omega,.clo (.v _)⟩
  case eql=>exact⟨_,_,F,by simp[H,binOp,Op.stringOp],.clo (.v _)⟩
  case neq=>exact⟨_,_,F,by simp[H,binOp,Op.stringOp],.clo (.v _)⟩
 ·exact F.elim
theorem aKa (G:OK C σ a w S ρ κ) {op:BinOp}{t:TypeId} (Y:P.underlying t=some .bool) {x y:Operand}
  (F:rd (evO σ.s) σ.h K (.binB op x y)):Ans P S w ρ κ σ.h K (do eqGuard op t x y (a.eval x) (a.eval y);binOp op t (a.eval x) (a.eval y)):=by
 have I:=G.ev x;have J:=G.ev y;generalize a.eval x=va at I⊢;generalize a.eval y=vb at J⊢;simp only[rd] at F;split at F
 ·rename_i s H O U;rw[O] at I;rw[U] at J;obtain rfl:=bM I;obtain rfl:=bM J;have M:(eqGuard op t x y (.bool s) (.bool H)).run P w=.ok () w:=by unfold eqGuard;cases op<;>simp
  unfold xY at F;cases op<;>simp only at F
  all_goals have L:(Op.equal t (.bool s) (.bool H)).run P w=.ok (s==H) w:=run_equalIn_bool' w 9999 t s H Y
  case eql=>exact⟨_,_,F,by simp[M,binOp,L],.clo (.v _)⟩
  case neq=>exact⟨_,_,F,by simp[M,binOp,L],.clo (.v _)⟩
 ·exact F.elim
theorem rd_un (I:OK C σ a w S ρ κ) {op:UnOp}{x:Operand}
  (G:rd (evO σ.s) σ.h K (.un op x)):Ans P S w ρ κ σ.h K (Op.unary op (a.eval x)):=by
 have F:=I.ev x;generalize a.eval x=va at F⊢;simp only[rd] at G;split at G
 ·rename_i b H;rw[H] at F;obtain rfl:=bM F;exact⟨_,_,G,by simp[Op.unary],.clo (.v _)⟩
 ·rename_i k n H;rw[H] at F;obtain rfl:=bM F;exact⟨_,_,G,by simp[Op.unary,Op.intArith],.clo (.v _)⟩
 ·rename_i k n H;rw[H] at F;obtain rfl:=bM F;exact⟨_,_,G,by simp[Op.unary,Op.intBits,nW],.clo (.v _)⟩
 ·exact G.elim
theorem aJ8 (G:OK C σ a w S ρ κ) {s d:TypeId}{k M:IntKind} (L:P.underlying s=some (.int M)) (J:P.underlying d=some (.int k)) {x:Operand}
  (F:rd (evO σ.s) σ.h K (.conv k x)):Ans P S w ρ κ σ.h K (convert s d (a.eval x)):=by
 have H:=G.ev x;generalize a.eval x=va at H⊢;simp only[rd] at F;split at F
 ·rename_i O n I;rw[I] at H;obtain rfl:=bM H;exact⟨_,_,F,by simp[convert,run_underlying L,run_underlying J,Conv.intToInt],.clo (.v _)⟩
 ·exact F.elim
theorem aLu (J:OK C σ a w S ρ κ) {t ty e:TypeId} (M:P.underlying t=some (.slice e)) {x:Operand}
  (F:rd (evO σ.s) σ.h K (.len x)):Ans P S w ρ κ σ.h K (Builtin.len_ #[t] ty #[a.eval x]):=by
 have H:=J.ev x;generalize a.eval x=va at H⊢
 have G:∀b n c,(Builtin.len_ #[t] ty #[.slice b n c]).run P w=.ok (.int .i64 n) w:=by
  intro b n c;simp[Builtin.len_,run_underlying M,goInt]
 simp only[rd] at F;split at F
 ·rename_i k l I;rw[I] at H;cases sI H with
  |sl _ _ base cap x off xs L hcc ho hr hk hcap=>exact⟨_,_,F,G _ _ _,.clo (.v _)⟩
 ·rename_i n off len I;rw[I] at H;split at F
  ·rename_i k l z L;obtain⟨_,base,cap,rfl,_⟩:=iP H _ _ _ L;exact⟨_,_,F,G _ _ _,.clo (.v _)⟩
  ·exact F.elim
 ·rename_i b n c I;rw[I] at H;obtain rfl:=bM H;exact⟨_,_,F,G _ _ _,.clo (.v _)⟩
 ·exact F.elim
theorem aJ5 (G:OK C σ a w S ρ κ) {t ty:TypeId} (J:P.underlying t=some .string) {x:Operand}
  (F:rd (evO σ.s) σ.h K (.lenS x)):Ans P S w ρ κ σ.h K (Builtin.len_ #[t] ty #[a.eval x]):=by
 have H:=G.ev x;generalize a.eval x=va at H⊢;simp only[rd] at F;split at F
 ·rename_i s I;rw[I] at H;obtain rfl:=bM H;exact⟨_,_,F,by simp[Builtin.len_,run_underlying J,goInt],.clo (.v _)⟩
 ·exact F.elim
theorem aJ6 (v:Value) {t ty e:TypeId}{n:Nat} (F:P.underlying t=some (.array n e))
  (G:rd (evO σ.s) σ.h K (.lenC n)):Ans P S w ρ κ σ.h K (Builtin.len_ #[t] ty #[v]):=by
 refine⟨_,.int .i64 n,G,?_,.clo (.v _)⟩;simp[Builtin.len_,run_underlying F,goInt]
theorem aIm {k:Nat}{l:List (List AV)}{v:Value} (h:RC S w (.sl k l) v) {lo hi:Nat} (O:lo≤hi) (h2:hi≤l.length) :
  ∃ base cap,v=.slice base l.length cap∧l.length≤cap∧
   RC S w (.sl k ((l.take hi).drop lo)) (.slice (if cap=lo then base else base.map (·.add (lo*k))) (hi-lo) (cap-lo)):=by
 cases h with
 | sl _ _ base cap x off xs hb hc ho hr hk hcap =>
  refine⟨base,cap,rfl,hcap.1,?_⟩;have F:((l.take hi).drop lo).length=hi-lo:=by simp;omega
  have H:∀i,i<hi-lo→((l.take hi).drop lo).getD i []=l.getD (lo+i) []:=by
   intro i G;simp[List.getD,show lo+i<hi by omega]
  have e:∀i j,(lo+i)*k+j=lo*k+(i*k+j):=by intro i j;rw[Nat.add_mul];omega
  have J:=RC.sl (S:=S) (w:=w) k ((l.take hi).drop lo) (if cap=lo then base else base.map (·.add (lo*k))) (cap-lo) x (off+lo*k) (fun m=>xs (lo*k+m))
   (fun L=>?_) (fun i j G I=>?_) (fun i j G I=>?_) (fun i j G I=>?_) (fun i G=>?_) ?_
  ·rw[F] at J;exact J
  ·have:0<hi-lo:=by
    rcases Nat.eq_zero_or_pos (hi-lo) with h0|h0
    ·exact absurd (List.length_eq_zero_iff.1 (by rw[F];exact h0)) L
    ·exact h0
   obtain⟨rfl,M⟩:=hb (by rintro rfl;simp at h2;omega);rw[if_neg (by omega)];exact⟨by simp[addr_add],M⟩
  ·rw[F] at G;have:=hc (lo+i) j (by omega) I;rw[e] at this;rw[Nat.add_assoc];exact this
  ·rw[F] at G;have:=ho (lo+i) j (by omega) I;rw[e] at this;exact this
  ·rw[F] at G;have:=hr (lo+i) j (by omega) I;rw[e] at this;rw[H i G];exact this
  ·rw[F] at G;rw[H i G];exact hk _ (by omega)
  ·rw[F];omega
def Bnd (ov:Option Value) (dflt:Nat) (n:Nat):Prop:=(ov=none∧n=dflt)∨∃k,ov=some (.int k n)
theorem zN {t e:TypeId}{k:Nat} (M:P.underlying t=some (.slice e)) (L:jS P e=some k) {base:Option Addr}{len cap lo hi:Nat}{G F:Option Value}
  (I:Bnd G 0 lo) (H:Bnd F len hi) (J:lo≤hi) (h2:hi≤cap) :
  (Instr.sliceAt t (.slice base len cap) G F none).run P w=.ok (.slice (if cap=lo then base else base.map (·.add (lo*k))) (hi-lo) (cap-lo)) w:=by
 rcases I with⟨rfl,rfl⟩|⟨U,rfl⟩<;>rcases H with⟨rfl,rfl⟩|⟨O,rfl⟩ <;>
  simp[Instr.sliceAt,run_underlying M,Instr.slice,Instr.sliceBounds,Instr.sliceBound,asIntOf,run_sizeOf L,J,h2]
theorem aLt (he:OK C σ a w S ρ κ) {t e:TypeId}{k:Nat} (hu:P.underlying t=some (.slice e)) (hk:jS P e=some k) {x:Operand}{G F:Option Operand}
  (H:rd (evO σ.s) σ.h K (.slc k x G F)):Ans P S w ρ κ σ.h K (Instr.sliceAt t (a.eval x) (G.map a.eval) (F.map a.eval) none):=by
 have hx:=he.ev x;generalize a.eval x=va at hx⊢
 have I:∀(o:Option Operand) (d:Nat),(o=none→Bnd (o.map a.eval) d d)∧(∀M m,o.map (evO σ.s)=some (.v (.int M m))→0≤m→Bnd (o.map a.eval) d m.toNat):=by
  intro o d;refine⟨fun h=>by subst h;exact .inl ⟨rfl,rfl⟩,fun M m h h0=>?_⟩;cases o with
  |none=>simp at h
  | some o =>
   simp only[Option.map_some,Option.some.injEq] at h;have:=he.ev o;rw[h] at this;refine .inr ⟨M,?_⟩;simp only[Option.map_some,bM this,Int.toNat_of_nonneg h0]
 simp only[rd] at H;split at H
 ·rename_i k' l hc;rw[hc] at hx
  have fin:∀(lo hi:Int),(k'=k∧0≤lo∧lo≤hi∧hi≤l.length)∧K (.sl k ((l.take hi.toNat).drop lo.toNat))→Bnd (G.map a.eval) 0 lo.toNat→Bnd (F.map a.eval) l.length hi.toNat→
    Ans P S w ρ κ σ.h K (Instr.sliceAt t va (G.map a.eval) (F.map a.eval) none):=by
   rintro lo hi ⟨⟨rfl,h0,h1,h2⟩,hK⟩ b1 b2;obtain⟨base,cap,rfl,hd,hr⟩:=aIm (sI hx) (lo:=lo.toNat) (hi:=hi.toNat) (by omega) (by omega);exact⟨_,_,hK,zN hu hk b1 b2 (by omega) (by omega),.clo hr⟩
  split at H
  ·rename_i J L;have n1:G=none:=by cases G<;>simp_all
   have n2:F=none:=by cases F<;>simp_all
   exact fin _ _ H (by simpa using(I G 0).1 n1) (by simpa using(I F l.length).1 n2)
  ·rename_i M m J L;have n2:F=none:=by cases F<;>simp_all
   exact fin _ _ H ((I G 0).2 _ _ J H.1.2.1) (by simpa using(I F l.length).1 n2)
  ·rename_i M m J L;have n1:G=none:=by cases G<;>simp_all
   exact fin _ _ H (by simpa using(I G 0).1 n1) ((I F l.length).2 _ _ L (by have:=H.1.2.2.1;omega))
  ·rename_i M m hj m' J L;exact fin _ _ H ((I G 0).2 _ _ J H.1.2.1) ((I F l.length).2 _ _ L (by have:=H.1;omega))
  ·exact H.elim
 ·rename_i n off len hc;rw[hc] at hx;split at H
  ·rename_i k' l z ha
   have fin:∀(lo hi:Int),(k'=k∧0≤lo∧lo≤hi∧hi≤len)∧K (.loc n (off+lo.toNat) (hi-lo).toNat)→Bnd (G.map a.eval) 0 lo.toNat→Bnd (F.map a.eval) len hi.toNat→
     Ans P S w ρ κ σ.h K (Instr.sliceAt t va (G.map a.eval) (F.map a.eval) none):=by
    rintro lo hi ⟨⟨rfl,h0,h1,h2⟩,hK⟩ b1 b2;obtain⟨hn,base,cap,rfl,hm,hd,U,Y⟩:=iP hx _ _ _ ha;refine⟨_,_,hK,zN hu hk b1 b2 (by omega) (by omega),.loc _ _ _ _ fun k2 l2 z2 O=>?_⟩;rw[ha] at O;simp only[Option.some.injEq,Blk.arr.injEq] at O;obtain⟨rfl,rfl,rfl⟩:=O;refine⟨by omega,_,_,by congr 1;omega,by omega,by omega,fun hl=>?_,fun J L=>?_⟩
    ·obtain⟨y,hy,rfl⟩:=U (by omega);rw[if_neg (by omega)];exact⟨y,hy,by simp[addr_add,Nat.add_mul]⟩
    ·have el:lo.toNat=0:=by omega
     have eo:off=0:=by omega
     rcases Y eo (by omega) with⟨h1,h2,h3⟩|⟨y,hy,hf,hg⟩
     ·exact .inl ⟨h1,by simp[h2],by omega⟩
     ·refine .inr ⟨y,hy,?_,by rw[el];exact hg⟩;rw[el,hf];simp[Addr.add]
   split at H
   ·rename_i J L;have n1:G=none:=by cases G<;>simp_all
    have n2:F=none:=by cases F<;>simp_all
    exact fin _ _ H (by simpa using(I G 0).1 n1) (by simpa using(I F len).1 n2)
   ·rename_i M m J L;have n2:F=none:=by cases F<;>simp_all
    exact fin _ _ H ((I G 0).2 _ _ J H.1.2.1) (by simpa using(I F len).1 n2)
   ·rename_i M m J L;have n1:G=none:=by cases G<;>simp_all
    exact fin _ _ H (by simpa using(I G 0).1 n1) ((I F len).2 _ _ L (by have:=H.1.2.2.1;omega))
   ·rename_i M m hj m' J L;exact fin _ _ H ((I G 0).2 _ _ J H.1.2.1) ((I F len).2 _ _ L (by have:=H.1;omega))
   ·exact H.elim
  ·exact H.elim
 ·exact H.elim
theorem aEg {t:TypeId} (L:P.underlying t=some .string) {s:ByteArray}{lo hi:Nat}{G F:Option Value}
  (I:Bnd G 0 lo) (H:Bnd F s.size hi) (J:lo≤hi) (h2:hi≤s.size) :
  (Instr.sliceAt t (.string s) G F none).run P w=.ok (.string (s.extract lo hi)) w:=by
 rcases I with⟨rfl,rfl⟩|⟨O,rfl⟩<;>rcases H with⟨rfl,rfl⟩|⟨M,rfl⟩ <;>
  simp[Instr.sliceAt,run_underlying L,Instr.slice,Instr.sliceBounds,Instr.sliceBound,asIntOf,J,h2]
theorem aLR (F:OK C σ a w S ρ κ) (o:Option Operand) (d:Nat):(o=none→Bnd (o.map a.eval) d d)∧(∀G m,o.map (evO σ.s)=some (.v (.int G m))→0≤m→Bnd (o.map a.eval) d m.toNat):=by
 refine⟨fun h=>by subst h;exact .inl ⟨rfl,rfl⟩,fun G m h H=>?_⟩;cases o with
 |none=>simp at h
 | some o =>
  simp only[Option.map_some,Option.some.injEq] at h;have:=F.ev o;rw[h] at this;refine .inr ⟨G,?_⟩;simp only[Option.map_some,bM this,Int.toNat_of_nonneg H]
theorem aJ2 (M:OK C σ a w S ρ κ) {t:TypeId} (hu:P.underlying t=some .string) {x:Operand}{G F:Option Operand}
  (H:rd (evO σ.s) σ.h K (.sstr x G F)):Ans P S w ρ κ σ.h K (Instr.sliceAt t (a.eval x) (G.map a.eval) (F.map a.eval) none):=by
 have O:=M.ev x;generalize a.eval x=va at O⊢;have I:=aLR M;simp only[rd] at H;split at H
 ·rename_i s Y;rw[Y] at O;obtain rfl:=bM O
  have fin:∀(lo hi:Int),(0≤lo∧lo≤hi∧hi≤s.size)∧K (.v (.string (s.extract lo.toNat hi.toNat)))→Bnd (G.map a.eval) 0 lo.toNat→Bnd (F.map a.eval) s.size hi.toNat→
    Ans P S w ρ κ σ.h K (Instr.sliceAt t (.string s) (G.map a.eval) (F.map a.eval) none):=by
   rintro lo hi ⟨⟨h0,h1,h2⟩,hK⟩ b1 b2;exact⟨_,_,hK,aEg hu b1 b2 (by omega) (by omega),.clo (.v _)⟩
  split at H
  ·rename_i J L;have n1:G=none:=by cases G<;>simp_all
   have n2:F=none:=by cases F<;>simp_all
   exact fin _ _ H (by simpa using(I G 0).1 n1) (by simpa using(I F s.size).1 n2)
  ·rename_i U m J L;have n2:F=none:=by cases F<;>simp_all
   exact fin _ _ H ((I G 0).2 _ _ J H.1.1) (by simpa using(I F s.size).1 n2)
  ·rename_i U m J L;have n1:G=none:=by cases G<;>simp_all
   exact fin _ _ H (by simpa using(I G 0).1 n1) ((I F s.size).2 _ _ L (by have:=H.1;omega))
  ·rename_i U m ha m' J L;exact fin _ _ H ((I G 0).2 _ _ J H.1.1) ((I F s.size).2 _ _ L (by have:=H.1;omega))
  ·exact H.elim
 ·exact H.elim
theorem aJ3 (I:OK C σ a w S ρ κ) {o:Oper}{x:Operand} (M:o.op=.nilCheck x) (G:rd (evO σ.s) σ.h K (.nilc x)) :
  ∃J v,K J∧(execOp a.eval o).run P w=.ok (.value v) w∧RV S w ρ κ σ.h J v:=by
 have F:=I.ev x;simp only[execOp,M];generalize a.eval x=va at F⊢;simp only[rd] at G;split at G
 ·rename_i c H;rw[H] at F;cases pF F with
  |ro _ y off xs hS hcell hone hr=>exact⟨_,_,G,rfl,F⟩
 ·rename_i n e c H;rw[H] at F;split at G
  ·rename_i b L;obtain⟨y,O,rfl⟩:=eD F _ L;exact⟨_,_,G,rfl,F⟩
  ·exact G.elim
 ·rename_i f c H;rw[H] at F;obtain⟨vs,rfl,_⟩:=aB1 F;exact⟨_,_,G,rfl,F⟩
 ·exact G.elim
theorem aFx (G:OK C σ a w S ρ κ) {x:Operand}{i:Nat} (F:rd (evO σ.s) σ.h K (.extract x i)):Ans P S w ρ κ σ.h K (Instr.extract (a.eval x) i):=by
 have H:=G.ev x;generalize a.eval x=va at H⊢;simp only[rd] at F;split at F
 ·rename_i c I;rw[I] at H;obtain⟨vs,rfl,L,J⟩:=nZ H;refine⟨_,_,F.2,?_,J i F.1⟩;simp[Instr.extract,show i<vs.size by have:=F.1;omega]
 ·exact F.elim
theorem aJ4 (G:OK C σ a w S ρ κ) {f:FuncId}{caps:List Operand} (J:rd (evO σ.s) σ.h K (.mkfn f caps)) :
  Ans P S w ρ κ σ.h K (Instr.makeFunc (.func f) #[] (caps.toArray.map a.eval)):=by
 refine⟨_,_,J,rfl,.fn _ _ _ (by simp) fun j F=>?_⟩;simp only[List.length_map] at F;have H:(caps.map (evO σ.s)).getD j .junk=evO σ.s caps[j]:=by simp[List.getD,F]
 have I:(caps.toArray.map a.eval).getD j undef=a.eval caps[j]:=by simp[F]
 rw[H,I];exact G.ev _
theorem aK3 (F:OK C σ a w S ρ κ) {mx:Bool}{t:Array TypeId}{T:TypeId}{x y:Operand} (G:rd (evO σ.s) σ.h K (.mm mx x y)) :
  Ans P S w ρ κ σ.h K (if mx then Builtin.max_ t T #[a.eval x,a.eval y] else Builtin.min_ t T #[a.eval x,a.eval y]):=by
 have H:=F.ev x;have I:=F.ev y;generalize a.eval x=va at H⊢;generalize a.eval y=vb at I⊢;simp only[rd] at G;split at G
 ·rename_i k n M m J L;rw[J] at H;rw[L] at I;obtain rfl:=bM H;obtain rfl:=bM I;cases mx
  ·exact⟨_,_,G,by simp[Builtin.min_,Builtin.min2],.clo (.v _)⟩
  ·exact⟨_,_,G,by simp[Builtin.max_,Builtin.max2],.clo (.v _)⟩
 ·exact G.elim
end
section
variable [Envs]
variable {P:Program}{C:Ctx}{σ:FSt}{a:Act}{w:World}{S:Nat→Prop}{ρ:Name→Option Nat}{κ:Name→Nat}{K:AV→Prop}{h:Name→Option Blk}
theorem xK {x:AV}{v:Value} (G:RV S w ρ κ h x v) (F:nM h x=true):v.oneCell'=true:=by
 cases x with
 |v y=>obtain rfl:=bM G;exact F
 |sl k l=>cases sI G;rfl
 |ro c=>cases pF G;rfl
 |fn f c=>obtain⟨vs,rfl,_⟩:=aB1 G;rfl
 | loc n off len =>
  simp only[nM] at F;split at F
  ·rename_i H;obtain⟨_,base,cap,rfl,_⟩:=iP G _ _ _ H;rfl
  ·cases F
 | ptr n e c =>
  simp only[nM] at F;obtain⟨b,H⟩:=Option.isSome_iff_exists.1 F;obtain⟨y,_,rfl⟩:=eD G _ H;rfl
 |agg c=>simp[nM] at F
 |tup c=>simp[nM] at F
 |junk=>simp[nM] at F
def Cells (S:Nat→Prop) (w:World) (ρ:Name→Option Nat) (κ:Name→Nat) (h:Name→Option Blk) (c:List AV) (vs:Array Value):Prop:=
 c.length=vs.size∧∀j,j<c.length→RV S w ρ κ h (c.getD j .junk) (vs.getD j undef)
theorem aCf {x:AV}{v:Value} (J:RV S w ρ κ h x v) {c:List AV} (G:jL h x=some c) :
  Cells S w ρ κ h c v.cells∧(∀j,j<c.length→(v.cells.getD j undef).oneCell'=true):=by
 have F:∀x:AV,(nM h x=true)→RV S w ρ κ h x v→Cells S w ρ κ h [x] v.cells∧(∀j,j < [x].length→(v.cells.getD j undef).oneCell'=true):=by
  intro x L J;have U:=xK J L;have e:v.cells=#[v]:=by cases v<;>simp_all [Value.cells,Value.oneCell']
  rw[e];refine⟨⟨rfl,fun j H=>?_⟩,fun j H=>?_⟩
  ·simp only[List.length_singleton] at H;obtain rfl:j=0:=by omega
   exact J
  ·simp only[List.length_singleton] at H;obtain rfl:j=0:=by omega
   exact U
 cases x with
 | agg c' =>
  simp only[jL] at G;split at G
  ·rename_i I;obtain rfl:=Option.some.inj G;obtain⟨vs,rfl,O,M⟩:=gL J;refine⟨⟨O,M⟩,fun j H=>xK (M j H) ?_⟩;have:=List.all_eq_true.1 I (c'.getD j .junk) (by simp[List.getD,H]);exact this
  ·cases G
 | _ =>
  simp only[jL] at G;split at G
  ·rename_i L;obtain rfl:=Option.some.inj G;exact F _ L J
  ·cases G
theorem lJ:∀(xs cs:List AV) (o:Nat),(lay cs o xs).length=cs.length
 | [],_,_=>rfl
 |x::r,cs,o=>by rw[lay,lJ r];simp
theorem aAj:∀(xs cs:List AV) (o j:Nat),o+xs.length≤cs.length→(lay cs o xs).getD j .junk=if o≤j∧j<o+xs.length then xs.getD (j-o) .junk else cs.getD j .junk
 | [],cs,o,j,_=>by
  have:¬(o≤j∧j<o+([]:List AV).length):=by simp
  rw[lay,if_neg this]
 | x::r,cs,o,j,h=>by
  rw[lay,aAj r _ _ _ (by simp at h⊢;omega)];simp only[List.length_cons] at h⊢;by_cases F:o+1≤j∧j<o+1+r.length
  ·rw[if_pos F,if_pos (by omega)];have:j-o=(j-(o+1))+1:=by omega
   rw[this];simp
  ·rw[if_neg F];by_cases h2:j=o
   ·subst h2;rw[if_pos (by omega)];have:j<cs.length:=by omega
    simp[List.getD,this]
   ·rw[if_neg (by omega)];simp[List.getD,List.getElem?_set_ne (Ne.symm h2)]
theorem yT:∀(l:List Value) (i o:Nat) (cs:Array Value),o+i+l.length≤cs.size→
  ((l.zipIdx i).foldl (fun cs (p:Value×Nat)=>cs.setIfInBounds (o+p.2) p.1) cs).size=cs.size∧
  ∀j,((l.zipIdx i).foldl (fun cs (p:Value×Nat)=>cs.setIfInBounds (o+p.2) p.1) cs).getD j undef=if o+i≤j∧j<o+i+l.length then l.getD (j-(o+i)) undef else cs.getD j undef
 | [],i,o,cs,_=>⟨rfl,fun j=>by
     have:¬(o+i≤j∧j<o+i+([]:List Value).length):=by simp
     rw[if_neg this];rfl⟩
 | x::r,i,o,cs,h=>by
  simp only[List.length_cons] at h;obtain⟨H,h2⟩:=yT r (i+1) o (cs.setIfInBounds (o+i) x) (by simp;omega);simp only[List.zipIdx_cons,List.foldl_cons];refine⟨by rw[H];simp,fun j=>?_⟩;rw[h2 j];simp only[List.length_cons];by_cases F:o+(i+1)≤j∧j<o+(i+1)+r.length
  ·rw[if_pos F,if_pos (by omega)];have:j-(o+i)=(j-(o+(i+1)))+1:=by omega
   rw[this];simp
  ·rw[if_neg F];by_cases G:j=o+i
   ·subst G;rw[if_pos (by omega)];simp[show o+i<cs.size by omega]
   ·rw[if_neg (by omega)];simp[Array.getElem?_setIfInBounds_ne (Ne.symm G)]
theorem getD_toList (vs:Array Value) (j:Nat):vs.toList.getD j undef=vs.getD j undef:=by
 simp[List.getD]
theorem aBt (ha:OK C σ a w S ρ κ) (G:Nat→Option (Nat×Nat)):∀(F:List (Nat×Operand)) (rp:List (Nat×Nat×Operand)) (cs:List AV) (vs:Array Value) {K:List AV→Prop},
  F.map (fun p=>(G p.1).map fun q=>(q.1,q.2,p.2))=rp.map some→Cells S w ρ κ σ.h cs vs→layAll (evO σ.s) σ.h cs rp K→
  ∃ J I,K J∧Instr.fill G vs (F.map fun p=>(p.1,a.eval p.2))=some I∧Cells S w ρ κ σ.h J I∧
   ((∀j,j<vs.size→(vs.getD j undef).oneCell'=true)→∀j,j<I.size→(I.getD j undef).oneCell'=true)
 | [],[],cs,vs,K,_,hc,M=>⟨cs,vs,M,rfl,hc,fun h=>h⟩
 | [],_::_,_,_,_,h,_,_=>by simp at h
 |_::_,[],_,_,_,h,_,_=>by simp at h
 | (i,x)::F,(o,n,y)::rp,cs,vs,K,h,hc,M=>by
  simp only[List.map_cons,List.cons.injEq] at h;obtain⟨U,h2⟩:=h;cases hp:G i with
  |none=>rw[hp] at U;simp at U
  | some q =>
   rw[hp] at U;simp only[Option.map_some,Option.some.injEq,Prod.mk.injEq] at U;obtain⟨rfl,rfl,rfl⟩:=U;simp only[layAll] at M;split at M
   ·rename_i c hm;obtain⟨⟨hn,hq⟩,M⟩:=M;obtain⟨⟨hg,hk⟩,hb⟩:=aCf (ha.ev x) hm;obtain⟨hl,hr⟩:=hc;have Y:=yT (a.eval x).cells.toList 0 q.1 vs (by simp;omega);simp only[Nat.add_zero,Array.length_toList,←hg] at Y
    have L:Cells S w ρ κ σ.h (lay cs q.1 c) (((a.eval x).cells.toList.zipIdx 0).foldl (fun cs (p:Value×Nat)=>cs.setIfInBounds (q.1+p.2) p.1) vs):=by
     refine⟨by rw[lJ,Y.1];exact hl,fun j hj=>?_⟩;rw[lJ] at hj;rw[aAj _ _ _ _ (by omega),Y.2 j];by_cases H:q.1≤j∧j<q.1+c.length
     ·rw[if_pos H,if_pos H,getD_toList];exact hk _ (by omega)
     ·rw[if_neg H,if_neg H];exact hr j hj
    obtain⟨J,I,hd,O,he,ho⟩:=aBt ha G F rp _ _ h2 L M;refine⟨J,I,hd,?_,he,fun hv=>ho fun j hj=>?_⟩
    ·have hz:(a.eval x).cells.zipIdx.foldl (fun cs (p:Value×Nat)=>cs.setIfInBounds (q.1+p.2) p.1) vs=((a.eval x).cells.toList.zipIdx 0).foldl (fun cs (p:Value×Nat)=>cs.setIfInBounds (q.1+p.2) p.1) vs:=by
      rw[←Array.foldl_toList,Array.toList_zipIdx]
     simp only[List.map_cons,Instr.fill,hp];rw[if_neg (by simp;omega)];rw[←O,←hz]
    ·rw[Y.1] at hj;rw[Y.2 j];by_cases H:q.1≤j∧j<q.1+c.length
     ·rw[if_pos H,getD_toList];exact hb _ (by omega)
     ·rw[if_neg H];exact hv j hj
   ·exact M.elim
end
section
variable [Envs]
mutual
def dY:AV→Bool
 |.v _=>true
 |.sl _ _=>true
 |.ro _=>true
 |.fn _ c=>pE c
 |.agg c=>pE c
 |.tup c=>pE c
 |_=>false
def pE:List AV→Bool
 | []=>true
 |x::r=>dY x&&pE r
end
theorem lW:∀{c:List AV}{j:Nat},pE c=true→j<c.length→dY (c.getD j .junk)=true
 | [],_,_,hj=>by simp at hj
 |x::r,0,h,_=>by simp[pE] at h;simpa using h.1
 |x::r,j+1,h,hj=>by simp[pE] at h;simpa using lW (c:=r) (j:=j) h.2 (by simpa using hj)
variable {P:Program}{C:Ctx}{σ:FSt}{a:Act}{w:World}{S:Nat→Prop}{ρ:Name→Option Nat}{κ:Name→Nat}{h:Name→Option Blk}
theorem RV.closed {x:AV}{v:Value} (H:RV S w ρ κ h x v) (F:dY x=true):RC S w x v:=by
 induction H with
 |junk v=>simp[dY] at F
 |clo H=>exact H
 |loc n off len v hv=>simp[dY] at F
 |ptr n e c v hv=>simp[dY] at F
 |fn f c vs hl hr ih=>simp only[dY] at F;exact .fn f c vs hl fun j G=>ih j G (lW F G)
 |agg c vs hl hr ih=>simp only[dY] at F;exact .agg c vs hl fun j G=>ih j G (lW F G)
 |tup c vs hl hr ih=>simp only[dY] at F;exact .tup c vs hl fun j G=>ih j G (lW F G)
def rowsOf (k:Nat):Nat→List AV→List (List AV)
 |0,_=>[]
 |m+1,cs=>cs.take k::rowsOf k m (cs.drop k)
def al (ev:Operand→AV) (h:Name→Option Blk) (n:Name) (K:AV→Blk→Prop):AOp→Prop
 | .box x=>match jL h (ev x) with
  |some c=>K (.ptr n 0 0) (.var c false)
  |none=>False
 |.alloc z=>z.all (fun x=>nM h x&&dY x)=true∧K (.ptr n 0 0) (.var z false)
 | .bslice k m z parts=>(z.length=k∧m*k≤2 ^ 24∧m≤2 ^ 24∧z.all (nM h)=true)∧layAll ev h (List.flatten (List.replicate m z)) (parts.map fun(i,x)=>(i*k,k,x)) fun cs =>
   pE cs=true∧K (.loc n 0 m) (.arr k (rowsOf k m cs) false)
 | .mk k bytes z x=>match ev x with
  |.v (.int .i64 i)=>(0≤i∧i*bytes≤2 ^ 47∧i<2 ^ 63∧z.length=k∧z.all (fun x=>nM h x&&dY x)=true)∧K (.loc n 0 i.toNat) (.arr k (List.replicate i.toNat z) false)
  |_=>False
 |_=>False
theorem xQ (w:World) (o:Obj):({w with heap:=w.heap.push o}:World).heap[w.heap.size]? = some o:=by simp
theorem OK.addVar (F:OK C σ a w S ρ κ) {n:Name} (U:jM n σ) {c:List AV}{cs:Array Value}{T:TypeId} (J:Cells S w ρ κ σ.h c cs) (O:∀j,j<c.length→(cs.getD j undef).oneCell'=true) (hn:l6 n c=false) :
  ∃ ρ' κ',OK C ⟨σ.s,hput σ.h n (some (.var c false))⟩ a {w with heap:=w.heap.push (.cells cs T)} S ρ' κ'∧
   RV S {w with heap:=w.heap.push (.cells cs T)} ρ' κ' (hput σ.h n (some (.var c false))) (.ptr n 0 0) (.pointer (some ⟨w.heap.size,0,none⟩)):=by
 have G:=Ext.push w (.cells cs T);refine⟨_,_,F.add G U (b:=.var c false) (ox:=some w.heap.size) (kn:=cs.size) (fun x hx=>by rw[←Option.some.inj hx];exact Nat.le_refl _) ?_,?_⟩
 ·intro ρ' κ' h' L M Y;refine⟨w.heap.size,cs,T,(0,0),L,xQ _ _,fun j _ I=>by omega,fun _ hs=>?_,by simp,M.symm,by rw[J.1];exact Nat.le_refl _,fun j I=>⟨O j I,(J.2 j I).mono (fun _ h=>h) (fun b H=>G.2.1 b (F.hok.dom b H)) fun m hh=>Y m ?_⟩⟩
  ·exact absurd (F.hok.dom _ hs) (Nat.lt_irrefl _)
  ·rintro rfl;rw[qF hn] at hh;cases hh
 ·refine .ptr _ _ _ _ fun b H=>?_;simp only[hput,if_true] at H;obtain rfl:=Option.some.inj H;exact⟨w.heap.size,by simp,by simp[Blk.k]⟩
theorem OK.addArr (G:OK C σ a w S ρ κ) {w':World} (H:Ext w w') {n:Name} (hf:jM n σ) {k:Nat}{l:List (List AV)}{cs:Array Value}{T:TypeId}{fr:Nat×Nat}{x:Nat} (M:w.heap.size≤x) (hx:w'.heap[x]? = some (.cells cs T fr)) (L:aJI fr cs.size)
  (hk:∀i,i<l.length→(l.getD i []).length=k) (J:l.length*k≤cs.size)
  (U:∀i j,i<l.length→j<k→(cs.getD (i*k+j) undef).oneCell'=true∧RC S w ((l.getD i []).getD j .junk) (cs.getD (i*k+j) undef)) {cap:Nat} (F:l.length≤cap∧cap<2 ^ 63∧cap*k≤cs.size) :
  ∃ ρ' κ',OK C ⟨σ.s,hput σ.h n (some (.arr k l false))⟩ a w' S ρ' κ'∧
   RV S w' ρ' κ' (hput σ.h n (some (.arr k l false))) (.loc n 0 l.length) (.slice (some ⟨x,0,none⟩) l.length cap):=by
 refine⟨_,_,G.add H hf (b:=.arr k l false) (ox:=some x) (kn:=cs.size) (fun y hy=>by rw[←Option.some.inj hy];exact M) ?_,?_⟩
 ·intro ρ' κ' h' Y e2 hm;refine⟨hk,.inr ⟨x,cs,T,fr,Y,hx,L,fun _ hs=>?_,by simp,e2.symm,J,fun i j hi O=>⟨(U i j hi O).1,(U i j hi O).2.mono (fun _ h=>h) fun b I=>H.2.1 b (G.hok.dom b I)⟩⟩⟩;have:=G.hok.dom _ hs;omega
 ·refine .loc _ _ _ _ fun k' l' z I=>?_;simp only[hput,if_true,Option.some.injEq,Blk.arr.injEq] at I;obtain⟨rfl,rfl,rfl⟩:=I;exact⟨by omega,_,_,rfl,F.1,F.2.1,fun _=>⟨x,by simp,by simp⟩,fun _ _=>.inr ⟨x,by simp,rfl,by simpa using F.2.2⟩⟩
def Made (P:Program) (C:Ctx) (σ:FSt) (a:Act) (w:World) (S:Nat→Prop) (n:Name) (K:AV→Blk→Prop) (s:Sem Value):Prop:=
 ∃x b v w',K x b∧s.run P w=.ok v w'∧(jM n σ→b.has n=false→∃ρ' κ',OK C ⟨σ.s,hput σ.h n (some b)⟩ a w' S ρ' κ'∧RV S w' ρ' κ' (hput σ.h n (some b)) x v)
variable {K:AV→Blk→Prop}{n:Name}
theorem aLW (F:OK C σ a w S ρ κ) {T:TypeId}{x:Operand} (G:al (evO σ.s) σ.h n K (.box x)):Made P C σ a w S n K (Instr.box T (a.eval x)):=by
 have I:=F.ev x;generalize a.eval x=va at I⊢;simp only[al] at G;split at G
 ·rename_i c L;obtain⟨H,J⟩:=aCf I L;refine⟨_,_,.pointer (some ⟨w.heap.size,0,none⟩),{w with heap:=w.heap.push (.cells va.cells T)},G,?_,fun M O=>?_⟩
  ·simp[Instr.box,newVar,newRow]
  ·exact F.addVar M H J (by simpa[Blk.has] using O)
 ·exact G.elim
def zOf (P:Program) (t:TypeId):Option (Array Value):=match P.info? t with|some i=>i.zero.map (·.cells)|none=>none
theorem zM {t:TypeId}{z:Array Value} (h:zOf P t=some z) (w:World):∃v,(zeroValue t).run P w=.ok v w∧v.cells=z:=by
 unfold zOf at h;cases hi:P.info? t with
 |none=>simp[hi] at h
 | some i =>
  simp only[hi] at h;cases hz:i.zero with
  |none=>simp[hz] at h
  |some v=>exact⟨v,by simp[zeroValue,typeInfo,hi,hz],by simpa[hz] using h⟩
theorem r9 (cs:Array Value):Cells S w ρ κ h (cs.toList.map fun x=>.v x) cs:=by
 refine⟨by simp,fun j F=>?_⟩;simp only[List.length_map,Array.length_toList] at F;simp[List.getD,F];exact .clo (.v _)
theorem aAs {p:AV→Bool}{l:List AV} (h:l.all p=true) {j:Nat} (F:j<l.length):p (l.getD j .junk)=true:=
 List.all_eq_true.1 h _ (by simp[List.getD,F])
theorem aJG (H:OK C σ a w S ρ κ) {T:TypeId}{z:Array Value} (U:zOf P T=some z) (J:al (evO σ.s) σ.h n K (.alloc (z.toList.map fun x=>.v x))):Made P C σ a w S n K (Instr.alloc T true (.tuple #[])):=by
 obtain⟨v,G,rfl⟩:=zM U w;simp only[al] at J;obtain⟨F,L⟩:=J;refine⟨_,_,.pointer (some ⟨w.heap.size,0,none⟩),{w with heap:=w.heap.push (.cells v.cells T)},L,?_,fun M O=>?_⟩
 ·simp[Instr.alloc,newVar,newRow,G]
 ·refine H.addVar M (r9 _) (fun j I=>?_) (by simpa[Blk.has] using O);have:=aAs F I;have h2:=(r9 (S:=S) (w:=w) (ρ:=ρ) (κ:=κ) (h:=σ.h) v.cells).2 j I;exact xK h2 (by simp only[Bool.and_eq_true] at this;exact this.1)
theorem aCY {z:List AV}{k:Nat} (F:z.length=k):∀(m i:Nat),i<m*k→(List.flatten (List.replicate m z)).getD i .junk=z.getD (i%k) .junk
 |0,i,h=>by omega
 | m+1,i,h=>by
  rw[List.replicate_succ,List.flatten_cons];by_cases hi:i<k
  ·rw[Nat.mod_eq_of_lt hi];simp[List.getD,List.getElem?_append_left (show i<z.length by omega)]
  ·have G:0<k:=by
    rcases Nat.eq_zero_or_pos k with h0|h0
    ·subst h0;omega
    ·exact h0
   have:i%k=(i-k)%k:=by rw[Nat.mod_eq_sub_mod (by omega)]
   rw[this,←aCY F m (i-k) (by rw[Nat.succ_mul] at h;omega)];simp[List.getD,List.getElem?_append_right (show z.length≤i by omega),F]
theorem aA5 {z:List AV}{k:Nat} (F:z.length=k) (m:Nat):(List.flatten (List.replicate m z)).length=m*k:=by
 simp[F]
theorem jF (k:Nat):∀(m:Nat) (cs:List AV),(rowsOf k m cs).length=m
 |0,_=>rfl
 |m+1,cs=>by simp[rowsOf,jF k m]
theorem vX (k:Nat):∀(m:Nat) (cs:List AV),cs.length=m*k→∀i,i<m→(((rowsOf k m cs).getD i []).length=k∧∀j,j<k→((rowsOf k m cs).getD i []).getD j .junk=cs.getD (i*k+j) .junk)
 |0,_,_,i,h=>by omega
 | m+1,cs,hl,0,_=>by
  rw[Nat.succ_mul] at hl;refine⟨by simp[rowsOf];omega,fun j F=>?_⟩;simp[rowsOf,List.getD,F]
 | m+1,cs,hl,i+1,h=>by
  rw[Nat.succ_mul] at hl;obtain⟨G,h2⟩:=vX k m (cs.drop k) (by simp;omega) i (by omega);refine⟨by simpa[rowsOf] using G,fun j F=>?_⟩;have:=h2 j F;simp only[rowsOf,List.getD_cons_succ,this];simp only[List.getD,List.getElem?_drop];congr 2;rw[Nat.succ_mul];omega
theorem rV (z:Array Value) (m k:Nat) (G:z.size=k) (j:Nat) (H:j<m*k):((Array.range (m*k)).map (z[· % z.size]!)).getD j undef=z.getD (j%k) undef:=by
 have I:0<k:=by
  rcases Nat.eq_zero_or_pos k with h0|h0
  ·subst h0;omega
  ·exact h0
 have F:j%k<z.size:=by rw[G];exact Nat.mod_lt _ I
 simp[H,G,getElem!_pos z (j%k) F,getElem?_pos z (j%k) F]
theorem aHX (he:OK C σ a w S ρ κ) {t e:TypeId}{k m:Nat}{z:Array Value} (hu:P.underlying t=some (.slice e)) (hk:jS P e=some k) (hz:zOf P e=some z) {F:List (Nat×Operand)}
  (hv:al (evO σ.s) σ.h n K (.bslice k m (z.toList.map fun x=>.v x) F)):Made P C σ a w S n K (Instr.buildSlice t m (F.map fun p=>(p.1,a.eval p.2)).toArray):=by
 obtain⟨Y,hl,rfl⟩:=zM hz w;simp only[al] at hv;obtain⟨⟨L,hx,hm,hw⟩,hv⟩:=hv;have ho:Y.cells.size=k:=by simpa using L
 have hq:Cells S w ρ κ σ.h (List.flatten (List.replicate m (Y.cells.toList.map fun x=>.v x))) ((Array.range (m*k)).map (Y.cells[· % Y.cells.size]!)):=by
  refine⟨by rw[aA5 L];simp,fun j O=>?_⟩;rw[aA5 L] at O;rw[aCY L m j O,rV _ _ _ ho _ O]
  have U:0<k:=by
   rcases Nat.eq_zero_or_pos k with I|I
   ·subst I;omega
   ·exact I
  exact(r9 Y.cells).2 _ (by rw[L];exact Nat.mod_lt _ U)
 obtain⟨cs,vs,⟨hd,hK⟩,J,M,hg⟩:=aBt he (fun i=>some (i*k,k)) F _ _ _ (by simp) hq hv
 have H:cs.length=m*k:=by
  have hr:∀(F:List (Nat×Value)) (c c':Array Value),Instr.fill (fun i=>some (i*k,k)) c F=some c'→c'.size=c.size:=by
   intro F
   induction F with
   |nil=>intro c c' h;simp[Instr.fill] at h;rw[h]
   | cons p r ih =>
    intro c c' h;simp only[Instr.fill] at h;split at h
    ·cases h
    ·rename_i ha;have:=ih _ _ h;rw[this]
     have ht:p.2.cells.zipIdx.foldl (fun cs (q:Value×Nat)=>cs.setIfInBounds (p.1*k+q.2) q.1) c=((p.2.cells.toList.zipIdx 0).foldl (fun cs (q:Value×Nat)=>cs.setIfInBounds (p.1*k+q.2) q.1) c):=by
      rw[←Array.foldl_toList,Array.toList_zipIdx]
     have:=(yT p.2.cells.toList 0 (p.1*k) c (by simp at ha⊢;omega)).1;rw[←ht] at this;exact this
  have:=hr _ _ _ J;rw[M.1,this];simp
 have hc:=hg (fun j O=>by
   simp only[Array.size_map,Array.size_range] at O;rw[rV _ _ _ ho _ O]
   have U:0<k:=by
     rcases Nat.eq_zero_or_pos k with I|I
     · subst I;omega
     · exact I
   have h2:=(r9 (S:=S) (w:=w) (ρ:=ρ) (κ:=κ) (h:=σ.h) Y.cells).2 (j%k) (by rw[L];exact Nat.mod_lt _ U);exact xK h2 (aAs hw (by rw[L];exact Nat.mod_lt _ U)))
 refine⟨_,_,.slice (some ⟨w.heap.size,0,none⟩) m m,{w with heap:=w.heap.push (.cells vs e)},hK,?_,fun hf _=>?_⟩
 ·have G:Instr.fill (fun i=>some (i*k,k)) ((Array.range (m*k)).map (fun i=>(if m*k=0 then #[] else Y.cells)[i%(if m*k=0 then(#[]:Array Value) else Y.cells).size]!)) (F.map fun p=>(p.1,a.eval p.2))=some vs:=by
   have hs:Array.range 0=#[]:=rfl;by_cases I:m*k=0
   ·rw[←J];simp[I,hs]
   ·rw[←J];simp[I]
  have hn:¬(2 ^ 24<m*k):=by omega
  by_cases I:m*k=0
  ·simp only[I,if_true] at G;simp[Instr.buildSlice,run_underlying hu,run_sizeOf hk,I,newRow];simp at G;rw[G];simp
  ·simp only[I,if_false] at G;have:¬16777216<m*k:=by omega
   simp[Instr.buildSlice,run_underlying hu,run_sizeOf hk,newRow,hl,this];rw[if_neg I,G];simp
 ·have hp:=he.addArr (w':={w with heap:=w.heap.push (.cells vs e)}) (Ext.push w _) hf (k:=k) (l:=rowsOf k m cs) (cs:=vs) (T:=e) (fr:=(0,0)) (x:=w.heap.size) (cap:=m) (Nat.le_refl _) (xQ _ _) (fun j _ O=>by omega)
   (fun i hi=>(vX k m cs H i (by rwa [jF] at hi)).1) (by rw[jF,←M.1,H];exact Nat.le_refl _) (fun i j hi O=>?_) ⟨by rw[jF];exact Nat.le_refl _,by omega,by rw[←M.1,H];exact Nat.le_refl _⟩
  ·rw[jF] at hp;exact hp
  ·rw[jF] at hi
   have hb:i*k+j<m*k:=by
    have:(i+1)*k≤m*k:=Nat.mul_le_mul_right k hi;rw[Nat.succ_mul] at this;omega
   refine⟨hc _ (by rw[←M.1,H];exact hb),?_⟩;rw[(vX k m cs H i hi).2 j O];exact(M.2 _ (by rw[H];exact hb)).closed (lW hd (by rw[H];exact hb))
theorem al_mk (M:OK C σ a w S ρ κ) {t e:TypeId}{i:TypeInfo}{G:Value} (hu:P.underlying t=some (.slice e)) (hi:P.info? e=some i) (hz:i.zero=some G) {x:Operand}
  (Y:al (evO σ.s) σ.h n K (.mk i.size i.bytes (G.cells.toList.map fun x=>.v x) x)):Made P C σ a w S n K (Instr.makeSlice t (a.eval x) (a.eval x)):=by
 have hx:=M.ev x;generalize a.eval x=va at hx⊢;simp only[al] at Y;split at Y
 ·rename_i m hc;rw[hc] at hx;obtain rfl:=bM hx;obtain⟨⟨h0,h1,h2,h3,J⟩,hK⟩:=Y;have hd:G.cells.size=i.size:=by simpa using h3
  have O:=run_make (P:=P) w t e i G hu hi hz .i64 .i64 m m h0 (by omega) (by rw[Int.mul_comm];omega) (by omega);refine⟨_,_,_,_,hK,O,fun hf _=>?_⟩;have hb:∀j,j<m.toNat*i.size→(madeCells G.cells (m.toNat*i.size)).getD j undef=G.cells.getD (j%i.size) undef:=fun j H=>rV _ _ _ hd _ H;have F:(List.replicate m.toNat (G.cells.toList.map fun x=>AV.v x)).length=m.toNat:=by simp
  have I:∀j,j<m.toNat→(List.replicate m.toNat (G.cells.toList.map fun x=>AV.v x)).getD j []=(G.cells.toList.map fun x=>AV.v x):=by
   intro j H;simp[List.getD,H]
  have U:=M.addArr (w':=w.alloc (.cells (madeCells G.cells (m.toNat*i.size)) e)) (Ext.push w _) hf (k:=i.size) (l:=List.replicate m.toNat (G.cells.toList.map fun x=>.v x)) (cs:=madeCells G.cells (m.toNat*i.size)) (T:=e) (fr:=(0,0)) (x:=w.heap.size) (cap:=m.toNat) (Nat.le_refl _) (xQ _ _) (fun j _ H=>by omega)
   (fun j H=>by rw[F] at H;rw[I j H];exact h3) (by rw[F,size_madeCells];exact Nat.le_refl _) (fun p j hp H=>?_) ⟨by rw[F];exact Nat.le_refl _,by omega,by rw[size_madeCells];exact Nat.le_refl _⟩
  ·rw[F] at U;exact U
  ·rw[F] at hp
   have ha:p*i.size+j<m.toNat*i.size:=by
    have:(p+1)*i.size≤m.toNat*i.size:=Nat.mul_le_mul_right _ hp;rw[Nat.succ_mul] at this;omega
   rw[hb _ ha,I p hp];have e1:(p*i.size+j)%i.size=j:=by rw[Nat.mul_comm,Nat.mul_add_mod,Nat.mod_eq_of_lt H]
   rw[e1];have L:j<(G.cells.toList.map fun x=>AV.v x).length:=by rw[h3];exact H
   have h4:=(r9 (S:=S) (w:=w) (ρ:=ρ) (κ:=κ) (h:=σ.h) G.cells).2 j L;have h5:=aAs J L;simp only[Bool.and_eq_true] at h5;exact⟨xK h4 h5.1,h4.closed h5.2⟩
 ·exact Y.elim
end
section
variable [Envs]
variable {P:Program}{C:Ctx}{σ:FSt}{a:Act}{w:World}{S:Nat→Prop}{ρ:Name→Option Nat}{κ:Name→Nat}{h:Name→Option Blk}
def fV (w:World) (x:Nat) (o:Obj):World:={w with heap:=w.heap.setIfInBounds x o}
theorem rU (w:World) (x:Nat) (o:Obj):(fV w x o).heap.size=w.heap.size:=by simp[fV]
theorem lN (w:World) {x y:Nat} (o:Obj) (F:y≠x):(fV w x o).heap[y]? = w.heap[y]?:=by
 simp[fV,Array.getElem?_setIfInBounds_ne (Ne.symm F)]
theorem lt_of_heap {w:World}{x:Nat}{o:Obj} (h:w.heap[x]? = some o):x<w.heap.size:=by
 rcases Nat.lt_or_ge x w.heap.size with h'|h'
 ·exact h'
 ·simp[Array.getElem?_eq_none h'] at h
theorem sO {w:World}{x:Nat}{G:Obj} (o:Obj) (F:w.heap[x]? = some G):(fV w x o).heap[x]? = some o:=by
 simp[fV,lt_of_heap F]
def vM:Array Value→Nat→List Value→Array Value
 |cs,_,[]=>cs
 |cs,o,v::r=>vM (cs.setIfInBounds o v) (o+1) r
theorem iC:∀(vs:List Value) (cs:Array Value) (o:Nat),(vM cs o vs).size=cs.size
 | [],_,_=>rfl
 |v::r,cs,o=>by rw[vM,iC r];simp
theorem uG:∀(vs:List Value) (cs:Array Value) (o j:Nat),o+vs.length≤cs.size→(vM cs o vs).getD j undef=if o≤j∧j<o+vs.length then vs.getD (j-o) undef else cs.getD j undef
 | [],cs,o,j,_=>by
  have:¬(o≤j∧j<o+([]:List Value).length):=by simp
  rw[vM,if_neg this]
 | x::r,cs,o,j,h=>by
  simp only[List.length_cons] at h;rw[vM,uG r _ _ _ (by simp;omega)];simp only[List.length_cons];by_cases F:o+1≤j∧j<o+1+r.length
  ·rw[if_pos F,if_pos (by omega)];have:j-o=(j-(o+1))+1:=by omega
   rw[this];simp
  ·rw[if_neg F];by_cases h2:j=o
   ·subst h2;rw[if_pos (by omega)];simp[show j<cs.size by omega]
   ·rw[if_neg (by omega)];simp[Array.getElem?_setIfInBounds_ne (Ne.symm h2)]
theorem aEd {x o:Nat}{cs:Array Value}{T:TypeId}{fr:Nat×Nat} (G:w.heap[x]? = some (.cells cs T fr)) (v:Value) :
  w.setCell ⟨x,o,none⟩ v=fV w x (.cells (cs.setIfInBounds o v) T fr):=by
 unfold World.setCell fV;congr 1;apply Array.ext_getElem?;intro i;by_cases hi:i=x
 ·subst hi;have F:=lt_of_heap G;have:w.heap[i]=.cells cs T fr:=by simpa[F] using G
  simp[Array.getElem_modify,F,this]
 ·simp[Array.getElem?_modify,Array.getElem?_setIfInBounds_ne (Ne.symm hi),Ne.symm hi]
theorem aCr (w:World) (x:Nat) (o F:Obj):fV (fV w x o) x F=fV w x F:=by
 unfold fV;simp
theorem mG {x o:Nat}{T:TypeId}{fr:Nat×Nat}:∀(vs:List Value) (i:Nat) (cs:Array Value) (w:World),w.heap[x]? = some (.cells cs T fr)→aJI fr cs.size→
  o+i+vs.length≤cs.size→(∀v∈vs,v.oneCell'=true)→(storeCells ⟨x,o,none⟩ vs i).run P w=.ok () (fV w x (.cells (vM cs (o+i) vs) T fr))
 | [],i,cs,w,hx,_,_,_=>by
  have:fV w x (.cells cs T fr)=w:=by
   unfold fV;have G:=lt_of_heap hx;have H:w.heap[x]=.cells cs T fr:=by simpa[G] using hx
   congr 1;rw[←H];apply Array.ext_getElem?;intro j;by_cases M:j=x
   ·subst M;simp[G]
   ·simp[Array.getElem?_setIfInBounds_ne (Ne.symm M)]
  simp[storeCells,vM,this]
 | v::r,i,cs,w,hx,ht,hl,H=>by
  simp only[List.length_cons] at hl;have F:w.cell? ⟨x,o+i,none⟩=some (cs.getD (o+i) undef):=cell_of_row hx (by omega)
  have J:w.frozen? ⟨x,o+i,none⟩=false:=by
   have:=ht (o+i) (by omega);simp only[World.frozen?,hx];simp only[Bool.and_eq_false_iff,decide_eq_false_iff_not];by_cases h:fr.1≤o+i
   ·exact .inr (fun h'=>this ⟨h,h'⟩)
   ·exact .inl h
  have I:=run_store P w ⟨x,o+i,none⟩ v .plain (H v (by simp));rw[F] at I;simp only[J,Bool.false_eq_true,if_false] at I;rw[aEd hx] at I;simp only[storeCells,addr_add,Sem.run_bind,I,Result.andThen_ok];have L:=sO (.cells (cs.setIfInBounds (o+i) v) T fr) hx;rw[mG r (i+1) (cs.setIfInBounds (o+i) v) _ L (by simpa using ht) (by simp;omega) (fun u O=>H u (by simp[O])),aCr];rfl
theorem OK.write (F:OK C σ a w S ρ κ) {n:Name}{b O:Blk}{x:Nat}{w':World} (U:σ.h n=some b) (hx:ρ n=some x) (hS:¬S x) (Y:w'.heap.size=w.heap.size)
  (hw:∀y,y≠x→w'.heap[y]? = w.heap[y]?) (ho:w'.os=w.os∧w'.output=w.output) (L:b.same O)
  (hd:∀h',(∀m,fC ρ ρ κ κ σ.h h' m)→vJ S w' ρ κ h' n O):OK C ⟨σ.s,hput σ.h n (some O)⟩ a w' S ρ κ:=by
 have hn:∀m,fC ρ ρ κ κ σ.h (hput σ.h n (some O)) m:=by
  intro m c H;by_cases G:m=n
  ·subst G;simp only[hput,if_true] at H;obtain rfl:=Option.some.inj H;exact⟨rfl,rfl,b,U,L⟩
  ·simp only[hput,G,if_false] at H;exact⟨rfl,rfl,c,H,c.same_refl⟩
 have J:∀y,S y→w'.heap[y]? = w.heap[y]?:=fun y I=>hw y (fun e=>hS (e ▸ I))
 refine ⟨F.nt,F.defers,fun t=>(F.slots t).mono (fun _ h=>h) J fun m _=>hn m,⟨fun m c H=>?_,fun m m' y M h2 h3 h4=>?_,fun y I=>(by rw[Y];exact F.hok.dom y I),F.hok.env.mono (fun _ h=>h) J⟩,
   (by rw[Y];exact F.size),fun y I G=>?_,fun m y M h2=>?_,F.S0,F.Snew,⟨ho.1.trans F.out.1,ho.2.trans F.out.2⟩,fun j c H=>?_⟩
 rotate_right
 ·obtain⟨_,_,c0,M,h2⟩:=hn (.b j) c H;obtain⟨e1,e2,b0,h3,h4⟩:=F.keep j c0 M;exact⟨e1,e2,b0,h3,Blk.same_trans h4 h2⟩
 ·by_cases G:m=n
  ·subst G;simp only[hput,if_true] at H;obtain rfl:=Option.some.inj H;exact hd _ hn
  ·simp only[hput,G,if_false] at H;refine(F.hok.blk m c H).mono (fun _ h=>h) (fun _ _ h=>h) J (fun y I=>hw y ?_) rfl rfl fun m' _=>hn m';rintro rfl;exact G (F.hok.inj m n y (by simp[H]) (by simp[U]) I hx)
 ·have ha:∀m,(hput σ.h n (some O) m).isSome→(σ.h m).isSome:=by
   intro m he;by_cases G:m=n
   ·subst G;simp[U]
   ·simpa[hput,G] using he
  exact F.hok.inj m m' y (ha m M) (ha m' h2) h3 h4
 ·rcases F.mine n x (by simp[U]) hx with h|h
  ·rw[hw y (by omega)];exact F.old y I G
  ·rw[hw y (fun e=>G (e ▸ h))];exact F.old y I G
 ·by_cases G:m=n
  ·subst G;exact F.mine m y (by simp[U]) h2
  ·simp only[hput,G,if_false] at M;exact F.mine m y M h2
def Blk.setRow:Blk→Nat→List AV→Blk
 |.var _ z,_,r=>.var r z
 |.arr k l z,e,r=>.arr k (l.set e r) z
def Blk.okc:Blk→List AV→Bool
 |.var _ _,_=>true
 |.arr _ _ _,c=>pE c
def yU (l:List (List AV)) (off len:Nat) (z:List AV):List (List AV):=l.take off++(List.replicate len z++l.drop (off+len))
theorem rZ {l:List (List AV)}{off len:Nat}{z:List AV} (h:off+len≤l.length):(yU l off len z).length=l.length:=by simp[yU];omega
theorem aHS (l:List (List AV)) (off:Nat) (z:List AV):yU l off 0 z=l:=by simp[yU]
theorem aC4 {l:List (List AV)}{off len:Nat}{z:List AV} (h:off+len≤l.length) (i:Nat):(yU l off len z).getD i []=if off≤i∧i<off+len then z else l.getD i []:=by
 simp only[yU,List.getD_eq_getElem?_getD,List.getElem?_append,List.getElem?_take,List.getElem?_replicate,List.getElem?_drop,List.length_take,List.length_replicate];by_cases F:i<off
 ·rw[if_pos (by omega),if_pos F,if_neg (by omega)]
 ·rw[if_neg (by omega)];by_cases h2:i<off+len
  ·rw[if_pos (by omega),if_pos (by omega),if_pos (by omega)];rfl
  ·rw[if_neg (by omega),if_neg (by omega),show off+len+(i-min off l.length-len)=i by omega]
def wrC (k:Nat) (z:List AV) (ev:Operand→AV) (h:Name→Option Blk) (X:Operand) (K:(Name→Option Blk)→Prop):Prop:=
 match ev X with
 | .loc n off len=>match h n with
  |some (.arr k' l fz)=>(fz=false∧k'=k∧z.length=k∧(z.all fun x=>nM h x&&dY x)=true∧off+len≤l.length)∧K (hput h n (some (.arr k (yU l off len z) false)))
  |_=>False
 |_=>False
theorem aLg (J:OK C σ a w S ρ κ) {t e ty:TypeId}{i:TypeInfo}{F:Value} (hu:P.underlying t=some (.slice e)) (hi:P.info? e=some i) (hz:i.zero=some F) {X:Operand}{K:(Name→Option Blk)→Prop}
  (M:wrC i.size (F.cells.toList.map fun x=>.v x) (evO σ.s) σ.h X K) :
  ∃h' w',K h'∧(Builtin.clear_ #[t] ty #[a.eval X]).run P w=.ok (.tuple #[]) w'∧OK C ⟨σ.s,h'⟩ a w' S ρ κ:=by
 have hX:=J.ev X;generalize a.eval X=vx at hX⊢;simp only[wrC] at M;split at M
 ·rename_i n off len hc;rw[hc] at hX;split at M
  ·rename_i k' l fz hb;obtain⟨⟨rfl,rfl,ha,hf,H⟩,hK⟩:=M;obtain⟨_,base,cap,rfl,qa,ht,U,_⟩:=iP hX _ _ _ hb;cases len with
   | zero =>
    refine⟨_,w,hK,?_,?_⟩
    ·cases base<;>simp[Builtin.clear_,run_underlying hu]
    ·have:hput σ.h n (some (.arr i.size (yU l off 0 (F.cells.toList.map fun x=>.v x)) false))=σ.h:=by
      funext m
      rw[aHS];by_cases hm:m=n
      ·subst hm;simp[hput,hb]
      ·simp[hput,hm]
     rw[this];exact J
   | succ len =>
    obtain⟨x,hx,rfl⟩:=U (by omega);obtain⟨h0,⟨h1,h2⟩|⟨y,O,T',fr,h1,h2,h3,h4,_,h5,h6,h7⟩⟩:=J.hok.blk n _ hb
    ·rw[h1] at hx;cases hx
    obtain rfl:=Option.some.inj (hx.symm.trans h1);have hd:F.cells.size=i.size:=by simpa using ha
    have G:(Builtin.zeroCells F.cells (len+1)).size=(len+1)*i.size:=by simp[Builtin.zeroCells,hd]
    have L:∀j,j<(len+1)*i.size→(Builtin.zeroCells F.cells (len+1)).getD j undef=F.cells.getD (j%i.size) undef:=by
     intro j I;have:=rV F.cells (len+1) i.size hd j I;unfold Builtin.zeroCells;rw[hd] at this⊢;exact this
    have Y:∀j,j<i.size→(F.cells.getD j undef).oneCell'=true∧RC S w ((F.cells.toList.map fun x=>AV.v x).getD j .junk) (F.cells.getD j undef):=by
     intro j I;have hg:j<(F.cells.toList.map fun x=>AV.v x).length:=by rw[ha];exact I
     have h8:=(r9 (S:=S) (w:=w) (ρ:=ρ) (κ:=κ) (h:=σ.h) F.cells).2 j hg;have h9:=aAs hf hg;simp only[Bool.and_eq_true] at h9;exact⟨xK h8 h9.1,h8.closed h9.2⟩
    have hl:(off+(len+1))*i.size≤l.length*i.size:=Nat.mul_le_mul_right _ H;rw[Nat.add_mul] at hl
    have ho:∀v∈(Builtin.zeroCells F.cells (len+1)).toList,v.oneCell'=true:=by
     intro v M;obtain⟨j,I,rfl⟩:=List.mem_iff_getElem.1 M;simp only[Array.length_toList,G] at I
     have hr:0<i.size:=by
      rcases Nat.eq_zero_or_pos i.size with h|h
      ·rw[h] at I;omega
      ·exact h
     have:=(Y (j%i.size) (Nat.mod_lt _ hr)).1;rw[←L j I] at this;have hq:j<(Builtin.zeroCells F.cells (len+1)).size:=by rw[G];exact I
     simpa[hq] using this
    have hs:=mG (P:=P) (o:=off*i.size) (Builtin.zeroCells F.cells (len+1)).toList 0 O w h2 h3 (by simp only[Array.length_toList,G];omega) ho;refine⟨_,fV w x (.cells (vM O (off*i.size+0) (Builtin.zeroCells F.cells (len+1)).toList) T' fr),hK,?_,?_⟩
    rotate_left
    ·refine J.write hb hx (h4 rfl) (rU _ _ _) (fun y hy=>lN _ _ hy) ⟨rfl,rfl⟩ (by simp[Blk.same,rZ H]) fun h' hn=>?_;have he:∀y,S y→(fV w x (.cells (vM O (off*i.size+0) (Builtin.zeroCells F.cells (len+1)).toList) T' fr)).heap[y]? = w.heap[y]?:=fun y hy=>lN _ _ (fun e=>h4 rfl (e ▸ hy));refine⟨fun p hp=>?_,.inr ⟨x,_,T',fr,hx,sO _ h2,by rw[iC];exact h3,fun _=>h4 rfl,by simp,by rw[iC];exact h5,by rw[iC,rZ H];exact h6,fun p j hp I=>?_⟩⟩
     ·rw[rZ H] at hp;rw[aC4 H];split
      ·exact ha
      ·exact h0 p hp
     ·rw[rZ H] at hp;rw[aC4 H,uG _ _ _ _ (by simp only[Array.length_toList,G];omega)];simp only[Array.length_toList,G,Nat.add_zero];by_cases hin:off≤p∧p<off+(len+1)
      ·have g1:off*i.size≤p*i.size:=Nat.mul_le_mul_right _ hin.1;have g2:(p+1)*i.size≤(off+(len+1))*i.size:=Nat.mul_le_mul_right _ hin.2;rw[Nat.succ_mul,Nat.add_mul] at g2;rw[if_pos hin,if_pos (by omega)]
       have e1:p*i.size+j-off*i.size=(p-off)*i.size+j:=by
        rw[Nat.sub_mul];omega
       have e2:((p-off)*i.size+j)%i.size=j:=by rw[Nat.mul_comm,Nat.mul_add_mod,Nat.mod_eq_of_lt I]
       have e3:(p-off)*i.size+j<(len+1)*i.size:=by rw[Nat.sub_mul];omega
       have:=L _ e3;rw[e2] at this
       have e4:(Builtin.zeroCells F.cells (len+1)).toList.getD (p*i.size+j-off*i.size) undef=F.cells.getD j undef:=by
        rw[e1,←this,getD_toList]
       rw[e4];exact⟨(Y j I).1,(Y j I).2.mono (fun _ h=>h) he⟩
      ·have:¬(off*i.size≤p*i.size+j∧p*i.size+j<off*i.size+(len+1)*i.size):=by
        rintro⟨g1,g2⟩;rcases Nat.lt_or_ge p off with hk|hw
        ·have:(p+1)*i.size≤off*i.size:=Nat.mul_le_mul_right _ hk;rw[Nat.succ_mul] at this;omega
        ·have:(off+(len+1))*i.size≤p*i.size:=Nat.mul_le_mul_right _ (by omega);rw[Nat.add_mul] at this;omega
       rw[if_neg hin,if_neg this];exact⟨(h7 p j hp I).1,(h7 p j hp I).2.mono (fun _ h=>h) he⟩
    ·simp[Builtin.clear_,run_underlying hu,zeroValue,typeInfo,hi,hz,hs]
  ·exact M.elim
 ·exact M.elim
def wrS (k:Nat) (ev:Operand→AV) (h:Name→Option Blk) (A X:Operand) (K:(Name→Option Blk)→Prop):Prop:=
 match ev A with
 | .ptr n e c=>match h n,jL h (ev X) with
  |some b,some cs=>(b.fz=false∧0<k∧cs.length=k∧c+k≤(b.row e).length∧b.okc cs=true)∧K (hput h n (some (b.setRow e (lay (b.row e) c cs))))
  |_,_=>False
 |_=>False
theorem aAi (l:List (List AV)) (e i:Nat) (r:List AV) (F:e<l.length):(l.set e r).getD i []=if i=e then r else l.getD i []:=by
 by_cases h:i=e
 ·subst h;simp[List.getD,F]
 ·rw[if_neg h];simp[List.getD,List.getElem?_set_ne (Ne.symm h)]
theorem aHZ (O:OK C σ a w S ρ κ) {T:TypeId}{k:Nat} (hk:jS P T=some k) {A X:Operand}{K:(Name→Option Blk)→Prop} (hv:wrS k (evO σ.s) σ.h A X K) :
  ∃h' w',K h'∧(Instr.storeAt T (a.eval A) (a.eval X)).run P w=.ok () w'∧OK C ⟨σ.s,h'⟩ a w' S ρ κ:=by
 have hA:=O.ev A;have hX:=O.ev X;generalize a.eval A=va at hA⊢;generalize a.eval X=vx at hX⊢;simp only[wrS] at hv;split at hv
 ·rename_i n e c hc;rw[hc] at hA;split at hv
  ·rename_i b cs hb hq;obtain⟨⟨hz,hw,hm,Y,hg⟩,hK⟩:=hv;obtain⟨⟨ha,hl⟩,U⟩:=aCf hX hq;obtain⟨x,hx,rfl⟩:=eD hA _ hb;have hf:=O.hok.blk n b hb
   have hd:∀v∈vx.cells.toList,v.oneCell'=true:=by
    intro v hv;obtain⟨j,M,rfl⟩:=List.mem_iff_getElem.1 hv;simp only[Array.length_toList] at M;have:=U j (by omega);simpa[M] using this
   have G:∀(F:Array Value) (J:TypeId) (fr:Nat×Nat),w.heap[x]? = some (.cells F J fr)→aJI fr F.size→e*b.k+c+k≤F.size→
     (Instr.storeAt T (.pointer (some ⟨x,e*b.k+c,none⟩)) vx).run P w=.ok () (fV w x (.cells (vM F (e*b.k+c) vx.cells.toList) J fr)):=by
    intro F J fr hh ht hr;have hs:=mG (P:=P) (o:=e*b.k+c) vx.cells.toList 0 F w hh ht (by simp;omega) hd;have:¬(vx.cells.size≠k):=by omega
    simp only[Nat.add_zero] at hs;simp[Instr.storeAt,Instr.sureAddr,storeVar,run_sizeOf hk,←ha,hm,hs]
   cases b with
   | var rc z =>
    simp only[Blk.fz] at hz;subst hz;obtain⟨y,F,J,fr,h1,h2,h3,h4,_,h5,h6,h7⟩:=hf;obtain rfl:=Option.some.inj (hx.symm.trans h1)
    have he:e=0:=by
     cases e with
     |zero=>rfl
     |succ e=>simp[Blk.row] at Y;omega
    subst he;simp only[Blk.row,Blk.k,Nat.mul_zero,Nat.zero_add] at Y G hK⊢;refine⟨_,_,hK,G F J fr h2 h3 (by omega),?_⟩;refine O.write hb hx (h4 rfl) (rU _ _ _) (fun y hy=>lN _ _ hy) ⟨rfl,rfl⟩ (by simp[Blk.same,Blk.setRow,lJ]) fun h' hn=>?_;have I:∀y,S y→(fV w x (.cells (vM F c vx.cells.toList) J fr)).heap[y]? = w.heap[y]?:=fun y hy=>lN _ _ (fun e=>h4 rfl (e ▸ hy));refine⟨x,vM F c vx.cells.toList,J,fr,hx,sO _ h2,by rw[iC];exact h3,fun _=>h4 rfl,by simp,by rw[iC];exact h5,by rw[iC,lJ];exact h6,fun j M=>?_⟩;rw[lJ] at M;rw[aAj _ _ _ _ (by omega),uG _ _ _ _ (by simp;omega)];simp only[Array.length_toList,←ha];by_cases H:c≤j∧j<c+cs.length
    ·rw[if_pos H,if_pos H,getD_toList];exact⟨U _ (by omega),(hl _ (by omega)).mono (fun _ h=>h) I fun m _=>hn m⟩
    ·rw[if_neg H,if_neg H];exact⟨(h7 j M).1,(h7 j M).2.mono (fun _ h=>h) I fun m _=>hn m⟩
   | arr k' l z =>
    simp only[Blk.fz] at hz;subst hz;simp only[Blk.row,Blk.k] at Y G hK⊢
    have he:e<l.length:=by
     rcases Nat.lt_or_ge e l.length with h'|h'
     ·exact h'
     ·simp[List.getD,List.getElem?_eq_none h'] at Y;omega
    obtain⟨h0,⟨h1,h2⟩|⟨y,F,J,fr,h1,h2,h3,h4,_,h5,h6,h7⟩⟩:=hf
    ·subst h2;simp at he
    obtain rfl:=Option.some.inj (hx.symm.trans h1);have hp:(l.getD e []).length=k':=h0 e he
    have h8:e*k'+k'≤F.size:=by
     have:(e+1)*k'≤l.length*k':=Nat.mul_le_mul_right _ he;rw[Nat.succ_mul] at this;omega
    refine⟨_,_,hK,G F J fr h2 h3 (by omega),?_⟩;refine O.write hb hx (h4 rfl) (rU _ _ _) (fun y hy=>lN _ _ hy) ⟨rfl,rfl⟩ (by simp[Blk.same,Blk.setRow]) fun h' hn=>?_;have I:∀y,S y→(fV w x (.cells (vM F (e*k'+c) vx.cells.toList) J fr)).heap[y]? = w.heap[y]?:=fun y hy=>lN _ _ (fun e=>h4 rfl (e ▸ hy));refine⟨fun i hi=>?_,.inr ⟨x,vM F (e*k'+c) vx.cells.toList,J,fr,hx,sO _ h2,by rw[iC];exact h3,fun _=>h4 rfl,by simp,by rw[iC];exact h5,by rw[iC];simpa using h6,fun i j hi M=>?_⟩⟩
    ·simp only[List.length_set] at hi;rw[aAi _ _ _ _ he];by_cases L:i=e
     ·subst L;rw[if_pos rfl,lJ];exact hp
     ·rw[if_neg L];exact h0 i hi
    ·simp only[List.length_set] at hi;rw[aAi _ _ _ _ he,uG _ _ _ _ (by simp;omega)];simp only[Array.length_toList,←ha];by_cases L:i=e
     ·subst L;rw[if_pos rfl,aAj _ _ _ _ (by omega)];by_cases H:c≤j∧j<c+cs.length
      ·rw[if_pos H,if_pos (by omega),getD_toList];have e1:i*k'+j-(i*k'+c)=j-c:=by omega
       rw[e1];exact⟨U _ (by omega),((hl _ (by omega)).closed (lW hg (by omega))).mono (fun _ h=>h) I⟩
      ·rw[if_neg H,if_neg (by omega)];exact⟨(h7 i j hi M).1,(h7 i j hi M).2.mono (fun _ h=>h) I⟩
     ·rw[if_neg L]
      have:¬(e*k'+c≤i*k'+j∧i*k'+j<e*k'+c+cs.length):=by
       rintro⟨g1,g2⟩;rcases Nat.lt_or_ge i e with ho|hu
       ·have:(i+1)*k'≤e*k':=Nat.mul_le_mul_right _ ho;rw[Nat.succ_mul] at this;omega
       ·have:(e+1)*k'≤i*k':=Nat.mul_le_mul_right _ (by omega);rw[Nat.succ_mul] at this;omega
      rw[if_neg this];exact⟨(h7 i j hi M).1,(h7 i j hi M).2.mono (fun _ h=>h) I⟩
  ·exact hv.elim
 ·exact hv.elim
end
section
variable [Envs]
variable {P:Program}{C:Ctx}{σ:FSt}{a:Act}{w:World}{S:Nat→Prop}{ρ:Name→Option Nat}{κ:Name→Nat}{h:Name→Option Blk}
def scr (n:Name) (x:AV):AV:=if x.has n then .junk else x
def fM (n:Name):Blk→Blk
 |.var c z=>.var (c.map (scr n)) z
 |b=>b
def nA (n:Name) (σ:FSt):FSt:=⟨fun t=>scr n (σ.s t),fun m=>if m=n then none else(σ.h m).map (fM n)⟩
theorem OK.kill (G:OK C σ a w S ρ κ) (n:Name):OK C (nA n σ) a w S ρ κ:=by
 have L:∀c:Blk,c.same (fM n c):=by
  intro c;cases c<;>simp[fM,Blk.same]
 have hn:∀m,fC ρ ρ κ κ σ.h (nA n σ).h m:=by
  intro m b' F;simp only[nA] at F;split at F
  ·cases F
  ·cases I:σ.h m with
   |none=>rw[I] at F;cases F
   | some c =>
    rw[I] at F;simp only[Option.map_some,Option.some.injEq] at F;subst F;exact⟨rfl,rfl,c,I ▸ rfl,L c⟩
 have U:∀x v,RV S w ρ κ σ.h x v→RV S w ρ κ (nA n σ).h (scr n x) v:=by
  intro x v hx;unfold scr;split
  ·exact .junk _
  ·exact hx.mono (fun _ h=>h) (fun _ _=>rfl) fun m _=>hn m
 have H:∀m,((nA n σ).h m).isSome→(σ.h m).isSome:=by
  intro m I;simp only[nA] at I;split at I
  ·cases I
  ·simpa using I
 refine ⟨G.nt,G.defers,fun t=>U _ _ (G.slots t),⟨fun m b' F=>?_,fun m m' y J h2 M O=>G.hok.inj m m' y (H m J) (H m' h2) M O,G.hok.dom,G.hok.env⟩,G.size,G.old,
   fun m y J h2=>G.mine m y (H m J) h2,G.S0,G.Snew,G.out,fun j b' F=>?_⟩
 rotate_left
 ·obtain⟨_,_,c,J,h2⟩:=hn (.b j) b' F;obtain⟨e1,e2,b0,M,O⟩:=G.keep j c J;exact⟨e1,e2,b0,M,Blk.same_trans O h2⟩
 simp only[nA] at F;split at F
 ·cases F
 ·cases I:σ.h m with
  |none=>rw[I] at F;cases F
  | some c =>
   rw[I] at F;simp only[Option.map_some,Option.some.injEq] at F;subst F;have hc:=G.hok.blk m c I;cases c with
   | var c z =>
    obtain⟨x,cs,T,fr,J,h2,M,O,ha,h5,h6,h7⟩:=hc;refine⟨x,cs,T,fr,J,h2,M,O,ha,h5,by simpa using h6,fun j Y=>?_⟩;simp only[List.length_map] at Y;have e:(c.map (scr n)).getD j .junk=scr n (c.getD j .junk):=by simp[List.getD,Y]
    rw[e];exact⟨(h7 j Y).1,U _ _ (h7 j Y).2⟩
   |arr k l z=>exact hc
theorem OK.add2 (F:OK C σ a w S ρ κ) {w':World}{n:Name} (hf:jM n σ) {b:Blk}{ox:Option Nat}{kn:Nat} (he:w.heap.size≤w'.heap.size)
  (hw:∀y,y<w.heap.size→ox≠some y→w'.heap[y]? = w.heap[y]?) (ho:w'.os=w.os∧w'.output=w.output)
  (G:∀x,ox=some x→(∀m,(σ.h m).isSome→ρ m≠some x)∧¬S x∧(C.w0.heap.size≤x∨C.Mut x))
  (hb:∀ρ' κ' h',ρ' n=ox→κ' n=kn→(∀m,m≠n→fC ρ ρ' κ κ' σ.h h' m)→vJ S w' ρ' κ' h' n b) :
  OK C ⟨σ.s,hput σ.h n (some b)⟩ a w' S (fun m=>if m=n then ox else ρ m) (fun m=>if m=n then kn else κ m):=by
 have hn:∀m,m≠n→fC ρ (fun m=>if m=n then ox else ρ m) κ (fun m=>if m=n then kn else κ m) σ.h (hput σ.h n (some b)) m:=by
  intro m O b' ha;simp only[hput,O,if_false] at ha⊢;exact⟨trivial,trivial,b',ha,b'.same_refl⟩
 have M:∀y,S y→w'.heap[y]? = w.heap[y]?:=fun y I=>hw y (F.hok.dom y I) fun e=>(G y e).2.1 I;refine⟨F.nt,F.defers,fun t=>?_,⟨fun m c H=>?_,fun m m' y L h2 U Y=>?_,fun y I=>Nat.lt_of_lt_of_le (F.hok.dom y I) he,F.hok.env.mono (fun _ h=>h) M⟩,Nat.le_trans F.size he,fun y I O=>?_,fun m y L h2=>?_,F.S0,F.Snew,⟨ho.1.trans F.out.1,ho.2.trans F.out.2⟩,fun j c H=>?_⟩
 rotate_right
 ·have e:Name.b j≠n:=fun e=>hf.1.2 j e.symm;simp only[hput,e,if_false] at H⊢;exact F.keep j c H
 ·refine(F.slots t).mono (fun _ h=>h) M fun m O=>hn m ?_;rintro rfl;rw[hf.2.1 t] at O;cases O
 ·by_cases J:m=n
  ·subst J;simp only[hput,if_true] at H;obtain rfl:=Option.some.inj H;exact hb _ _ _ (by simp) (by simp) hn
  ·simp only[hput,J,if_false] at H;refine(F.hok.blk m c H).mono (fun _ h=>h) (fun _ _ h=>h) M (fun y I=>hw y (F.hok.lt (by simp[H]) I) fun e=>(G y e).1 m (by simp[H]) I) (by simp[J]) (by simp[J]) fun m' hd=>hn m' ?_;rintro rfl;rw[hf.2.2 m c H] at hd;cases hd
 ·by_cases e1:m=n<;>by_cases e2:m'=n
  ·rw[e1,e2]
  ·simp only[e1,if_true] at U;simp only[hput,e2,if_false] at h2 Y;exact absurd Y ((G y U).1 m' h2)
  ·simp only[e2,if_true] at Y;simp only[hput,e1,if_false] at L U;exact absurd U ((G y Y).1 m L)
  ·simp only[hput,e1,e2,if_false] at L h2 U Y;exact F.hok.inj m m' y L h2 U Y
 ·by_cases e:ox=some y
  ·rcases(G y e).2.2 with h|h
   ·omega
   ·exact absurd h O
  ·rw[hw y (Nat.lt_of_lt_of_le I F.size) e];exact F.old y I O
 ·by_cases e:m=n
  ·simp only[e,if_true] at h2;exact(G y h2).2.2
  ·simp only[hput,e,if_false] at L h2;exact F.mine m y L h2
theorem aGx {x:AV}{v:Value} (ha:HOK S w ρ κ h) (hx:RV S w ρ κ h x v) {k:Nat}{l:List (List AV)} (H:pO k h x=some l) :
  ∃ base cap,v=.slice base l.length cap∧(∀i,i<l.length→(l.getD i []).length=k)∧
   ∃b off,(l≠[]→base=some ⟨b,off,none⟩∧b<w.heap.size)∧∀i j,i<l.length→j<k→∃u,w.cell? ⟨b,off+(i*k+j),none⟩=some u∧u.oneCell'=true∧RC S w ((l.getD i []).getD j .junk) u:=by
 unfold pO at H;split at H
 ·rename_i J l';split at H
  ·rename_i hk;subst hk;obtain rfl:=Option.some.inj H;cases sI hx with
   | sl _ _ base cap b off xs O hc ho hr hk U =>
    exact⟨base,cap,rfl,hk,b,off,fun G=>⟨(O G).1,ha.dom _ (O G).2⟩,fun i j hi Y=>⟨_,hc i j hi Y,ho i j hi Y,hr i j hi Y⟩⟩
  ·cases H
 ·rename_i n off len;split at H
  ·rename_i J l' z O;split at H
   ·rename_i hk;subst hk;obtain rfl:=Option.some.inj H;obtain⟨he,base,cap,rfl,hg,U,L,_⟩:=iP hx _ _ _ O;have F:((l'.drop off).take len).length=len:=by simp;omega
    have I:∀i,i<len→((l'.drop off).take len).getD i []=l'.getD (off+i) []:=by
     intro i hi;simp[List.getD,hi]
    obtain⟨M,h1⟩:=ha.blk n _ O;refine⟨base,cap,by rw[F],fun i hi=>?_,?_⟩
    ·rw[F] at hi;rw[I i hi];exact M _ (by omega)
    ·rcases h1 with⟨h1,h2⟩|⟨x,cs,T,fr,h1,h2,h3,h4,_,h5,h6,h7⟩
     ·subst h2;simp only[List.length_nil] at he;exact⟨0,0,fun G=>absurd (List.length_eq_zero_iff.1 (by rw[F];omega)) G,fun i j hi=>by rw[F] at hi;omega⟩
     ·refine⟨x,off*J,fun G=>?_,fun i j hi Y=>?_⟩
      ·have hd:0<len:=by
        rcases Nat.eq_zero_or_pos len with M|M
        ·exact absurd (List.length_eq_zero_iff.1 (by rw[F];exact M)) G
        ·exact M
       obtain⟨y,hy,rfl⟩:=L hd;obtain rfl:=Option.some.inj (h1.symm.trans hy);exact⟨rfl,lt_of_heap h2⟩
      ·rw[F] at hi;have:=h7 (off+i) j (by omega) Y
       have hf:(off+i)*J+j<cs.size:=by
        have:(off+i+1)*J≤l'.length*J:=Nat.mul_le_mul_right _ (by omega);rw[Nat.succ_mul] at this;omega
       rw[I i hi];have e:off*J+(i*J+j)=(off+i)*J+j:=by rw[Nat.add_mul];omega
       exact⟨_,by rw[e];exact cell_of_row h2 hf,this⟩
   ·cases H
  ·cases H
 ·obtain rfl:=Option.some.inj H;obtain rfl:=bM hx;exact⟨none,0,rfl,by simp,0,0,by simp,by simp⟩
 ·cases H
def pQ (k:Nat) (l:List (List AV)) (m:Nat):AV:=(l.getD (m/k) []).getD (m%k) .junk
theorem wU {k n m:Nat} (h:m<n*k):m/k<n∧m%k<k∧m/k*k+m%k=m:=by
 have F:0<k:=by
  rcases Nat.eq_zero_or_pos k with h0|h0
  ·subst h0;omega
  ·exact h0
 refine⟨(Nat.div_lt_iff_lt_mul F).2 h,Nat.mod_lt _ F,?_⟩;have:=Nat.div_add_mod m k;rw[Nat.mul_comm] at this;exact this
structure Reads (S:Nat→Prop) (w:World) (base:Option Addr) (k:Nat) (l:List (List AV)) (f:Nat→Value):Prop where
 rows:∀i,i<l.length→(l.getD i []).length=k
 cell:∀w':World,w'.heap=w.heap→∀m,m<l.length*k→∃b off,base=some ⟨b,off,none⟩∧w'.cell? ⟨b,off+m,none⟩=some (f m)
 one:∀m,m<l.length*k→(f m).oneCell'=true
 rc:∀m,m<l.length*k→RC S w (pQ k l m) (f m)
theorem aBK {x:AV}{v:Value} (I:HOK S w ρ κ h) (hx:RV S w ρ κ h x v) {k:Nat}{l:List (List AV)} (U:pO k h x=some l) :
  ∃base cap f,v=.slice base l.length cap∧Reads S w base k l f:=by
 obtain⟨base,cap,rfl,F,b,off,M,O⟩:=aGx I hx U;refine⟨base,cap,fun m=>(w.cell? ⟨b,off+m,none⟩).getD undef,rfl,F,fun w' hw m G=>?_,fun m G=>?_,fun m G=>?_⟩
 all_goals
  obtain⟨J,h2,L⟩:=wU G;obtain⟨u,H,Y,hr⟩:=O _ _ J h2;rw[L] at H
 ·refine⟨b,off,(M (by rintro rfl;simp at G)).1,?_⟩;have:w'.cell? ⟨b,off+m,none⟩=w.cell? ⟨b,off+m,none⟩:=by simp[World.cell?,hw]
  rw[this,H];rfl
 ·simp only[H,Option.getD_some];exact Y
 ·simp only[H,Option.getD_some];exact hr
theorem Reads.first {base:Option Addr}{k:Nat}{l:List (List AV)}{f:Nat→Value} (F:Reads S w base k l f) (cap:Nat) {w':World} (I:w'.heap=w.heap) :
  (Builtin.firstCells k l.length (.slice base l.length cap)).run P w'=.ok ((List.range (l.length*k)).map f).toArray w':=by
 cases base with
 | none =>
  have:l.length*k=0:=by
   rcases Nat.eq_zero_or_pos (l.length*k) with h|h
   ·exact h
   ·obtain⟨_,_,h,_⟩:=F.cell w rfl 0 h;cases h
  simp[Builtin.firstCells,this]
 | some b =>
  simp only[Builtin.firstCells];refine run_loadCells w' b (l.length*k) f fun j H=>?_;obtain⟨x,off,G,h2⟩:=F.cell w' I j H;obtain rfl:=Option.some.inj G;rw[addr_add];exact h2
theorem vY {k:Nat}{l G:List (List AV)}{m:Nat} (L:m<(l++G).length*k) :
  pQ k (l++G) m=if m<l.length*k then pQ k l m else pQ k G (m-l.length*k):=by
 obtain⟨M,h2,O⟩:=wU L;have H:0<k:=by omega
 unfold pQ;by_cases h:m<l.length*k
 ·rw[if_pos h];have:=(Nat.div_lt_iff_lt_mul H).2 h;simp[List.getD,List.getElem?_append_left this]
 ·rw[if_neg h];have F:l.length≤m/k:=(Nat.le_div_iff_mul_le H).2 (by omega);have I:(m-l.length*k)/k=m/k-l.length:=by rw[Nat.mul_comm];exact Nat.sub_mul_div _ _ _
  have J:(m-l.length*k)%k=m%k:=by rw[Nat.mul_comm];exact Nat.sub_mul_mod (by rw[Nat.mul_comm];omega)
  rw[I,J];simp[List.getD,List.getElem?_append_right F]
theorem aAq {k:Nat}{l:List (List AV)}{cs:Array Value} (J:∀m,m<l.length*k→(cs.getD m undef).oneCell'=true∧RC S w (pQ k l m) (cs.getD m undef)) :
  ∀i j,i<l.length→j<k→(cs.getD (i*k+j) undef).oneCell'=true∧RC S w ((l.getD i []).getD j .junk) (cs.getD (i*k+j) undef):=by
 intro i j hi G
 have F:i*k+j<l.length*k:=by
  have:(i+1)*k≤l.length*k:=Nat.mul_le_mul_right _ hi;rw[Nat.succ_mul] at this;omega
 have:=J _ F;unfold pQ at this
 have H:(i*k+j)/k=i:=by
  rw[Nat.mul_comm,Nat.mul_add_div (by omega),Nat.div_eq_of_lt G];omega
 have I:(i*k+j)%k=j:=by rw[Nat.mul_comm,Nat.mul_add_mod,Nat.mod_eq_of_lt G]
 rw[H,I] at this;exact this
def aBa (k:Nat) (h:Name→Option Blk):AV→Option (Option Name×List (List AV))
 |.v (.slice none 0 0)=>some (none,[])
 | .loc n off len=>match h n with
  |some (.arr k' l z)=>if k'=k∧off=0∧len=l.length∧z=false then some (some n,l) else none
  |_=>none
 |_=>none
def aA0:Option Name→FSt→FSt
 |some n,σ=>nA n σ
 |none,σ=>σ
def wrA (k bytes:Nat) (σ:FSt) (d:Name) (A X:Operand) (K:FSt→AV→Prop):Prop:=
 match aBa k σ.h (evO σ.s A),pO k σ.h (evO σ.s X) with
 | some (on,l),some l'=>((l.length+l'.length)*bytes≤2 ^ 47∧l.length+l'.length<2 ^ 62)∧
   K ⟨(aA0 on σ).s,hput (aA0 on σ).h d (some (.arr k (l++l') false))⟩ (.loc d 0 (l.length+l'.length))
 |_,_=>False
theorem aHd (J:OK C σ a w S ρ κ) {t t2 e e2:TypeId}{ty:TypeId}{i:TypeInfo}{zv:Value} (hu:P.underlying t=some (.slice e)) (qj:P.underlying t2=some (.slice e2)) (hi:P.info? e=some i) (hz:i.zero=some zv) (q4:zv.cells.size=i.size) {A X:Operand}{d:Name}{K:FSt→AV→Prop}
  (hf:∀on l,aBa i.size σ.h (evO σ.s A)=some (on,l)→jM d (aA0 on σ)) (hv:wrA i.size i.bytes σ d A X K) :
  ∃σ' x v w' ρ' κ',K σ' x∧(Builtin.append_ #[t,t2] ty #[a.eval A,a.eval X]).run P w=.ok v w'∧OK C σ' a w' S ρ' κ'∧RV S w' ρ' κ' σ'.h x v:=by
 have hA:=J.ev A;have hX:=J.ev X;generalize a.eval A=va at hA⊢;generalize a.eval X=vx at hX⊢;simp only[wrA] at hv;split at hv
 ·rename_i on l F G q1;obtain⟨⟨q8,ja⟩,hK⟩:=hv;have qb:=hf _ _ G;obtain⟨xb,xc,f',rfl,U⟩:=aBK J.hok hX q1
  have hs:∃base cap f,va=.slice base l.length cap∧Reads S w base i.size l f∧cap<2 ^ 63∧
    ((on=none∧base=none∧cap=0∧l=[])∨∃n z,on=some n∧σ.h n=some (.arr i.size l false)∧z=()∧((ρ n=none∧base=none∧cap=0)∨∃x,ρ n=some x∧base=some ⟨x,0,none⟩∧cap*i.size≤κ n)):=by
   unfold aBa at G;split at G
   ·rename_i qa;simp only[Option.some.injEq,Prod.mk.injEq] at G;obtain⟨rfl,rfl⟩:=G;rw[qa] at hA;obtain rfl:=bM hA;exact⟨none,0,fun _=>undef,rfl,⟨by simp,by simp,by simp,by simp⟩,by omega,.inl ⟨rfl,rfl,rfl,rfl⟩⟩
   ·rename_i n off len qa;split at G
    ·rename_i k' l2 z hb;split at G
     ·rename_i h9;obtain⟨rfl,rfl,rfl,rfl⟩:=h9;simp only[Option.some.injEq,Prod.mk.injEq] at G;obtain⟨rfl,rfl⟩:=G;rw[qa] at hA;have qr:pO i.size σ.h (.loc n 0 l2.length)=some l2:=by simp[pO,hb]
      obtain⟨base,cap,f,qu,hR⟩:=aBK J.hok hA qr;obtain⟨_,qv,q7,ho,_,hd,_,qc⟩:=iP hA _ _ _ hb;rw[qu] at ho;simp only[Value.slice.injEq,true_and] at ho;obtain⟨rfl,rfl⟩:=ho;exact⟨base,cap,f,qu,hR,hd,.inr ⟨n,(),rfl,hb,rfl,qc rfl rfl⟩⟩
     ·cases G
    ·cases G
   ·cases G
  obtain⟨base,cap,f,rfl,hR,hd,h8⟩:=hs
  have hk:OK C (aA0 on σ) a w S ρ κ:=by
   cases on with
   |none=>exact J
   |some n=>exact J.kill n
  have hl:∀j,j<(l++F).length→((l++F).getD j []).length=i.size:=by
   intro j hj;simp only[List.length_append] at hj;by_cases L:j<l.length
   ·simpa[List.getD,List.getElem?_append_left L] using hR.rows j L
   ·simpa[List.getD,List.getElem?_append_right (Nat.le_of_not_lt L)] using U.rows (j-l.length) (by omega)
  have I:=fun w' hw=>U.first (P:=P) xc (w':=w') hw;have hp:=fun w' hw=>hR.first (P:=P) cap (w':=w') hw;have H:(l++F).length*i.size=l.length*i.size+F.length*i.size:=by rw[List.length_append,Nat.add_mul]
  have qh:∀v∈(List.range (F.length*i.size)).map f',v.oneCell'=true:=by
   intro v hv;obtain⟨m,Y,rfl⟩:=List.mem_map.1 hv;exact U.one m (by simpa using Y)
  by_cases M:l.length+F.length≤cap
  ·-- there is room: the row is written where it lies, or nothing is written
   have hr:base=none→cap=0→l=[]→∃σ' x v w' ρ' κ',K σ' x∧(Builtin.append_ #[t,t2] ty #[.slice base l.length cap,.slice xb F.length xc]).run P w=.ok v w'∧OK C σ' a w' S ρ' κ'∧RV S w' ρ' κ' σ'.h x v:=by
    rintro rfl rfl rfl;obtain rfl:F=[]:=by simpa using M
    have hc:=I w rfl;simp only[List.length_nil,Nat.zero_mul,List.range_zero,List.map_nil] at hc;refine⟨_,_,.slice none 0 0,w,_,_,hK,?_,hk.add2 qb (b:=.arr i.size [] false) (ox:=none) (kn:=0) (Nat.le_refl _) (fun _ _ _=>rfl) ⟨rfl,rfl⟩ (by simp) (fun ρ' κ' h' e1 e2 _=>⟨by simp,.inl ⟨e1,rfl⟩⟩),?_⟩
    ·simp[Builtin.append_,run_underlying hu,run_underlying qj,sizeOf,typeInfo,hi,Builtin.lenOf,hc]
    ·refine .loc _ _ _ _ fun k' l2 z hb=>?_;simp only[hput,if_true,Option.some.injEq,Blk.arr.injEq] at hb;obtain⟨rfl,rfl,rfl⟩:=hb;exact⟨by simp,none,0,rfl,by omega,by omega,fun h=>absurd h (by simp),fun _ _=>.inl ⟨by simp,rfl,rfl⟩⟩
   rcases h8 with⟨rfl,ht,h0,qe⟩|⟨n,_,rfl,hb,_,⟨hρ,ht,h0⟩|⟨x,hρ,rfl,qm⟩⟩
   ·exact hr ht h0 qe
   ·obtain⟨_,⟨_,qe⟩|⟨x,_,_,_,hx,_⟩⟩:=J.hok.blk n _ hb
    ·exact hr ht h0 qe
    ·rw[hρ] at hx;cases hx
   ·-- written in place
    obtain⟨q9,⟨L,h2⟩|⟨y,O,T,fr,L,h2,h3,h4,_,h5,h6,h7⟩⟩:=J.hok.blk n _ hb
    ·rw[hρ] at L;cases L
    obtain rfl:=Option.some.inj (hρ.symm.trans L)
    have qo:l.length*i.size+F.length*i.size≤O.size:=by
     rw[h5,←Nat.add_mul];exact Nat.le_trans (Nat.mul_le_mul_right _ M) qm
    have qs:=mG (P:=P) (o:=l.length*i.size) ((List.range (F.length*i.size)).map f') 0 O w h2 h3 (by simp;omega) qh;simp only[Nat.add_zero] at qs;have hc:=I w rfl;have hS:¬S x:=h4 rfl;have qi:(vM O (l.length*i.size) ((List.range (F.length*i.size)).map f')).size=O.size:=iC _ _ _;have ha:=fun m=>uG ((List.range (F.length*i.size)).map f') O (l.length*i.size) m (by simp;omega);simp only[List.length_map,List.length_range] at ha
    refine ⟨_,_,.slice (some ⟨x,0,none⟩) (l.length+F.length) cap,fV w x (.cells (vM O (l.length*i.size) ((List.range (F.length*i.size)).map f')) T fr),_,_,hK,?_,
      hk.add2 qb (b:=.arr i.size (l++F) false) (ox:=some x) (kn:=κ n) (by rw[rU];exact Nat.le_refl _) (fun y _ q0=>lN _ _ (fun e=>q0 (e ▸ rfl))) ⟨rfl,rfl⟩ ?_ ?_,?_⟩
    ·simp[Builtin.append_,run_underlying hu,run_underlying qj,sizeOf,typeInfo,hi,Builtin.lenOf,hc,M,addr_add,qs]
    ·intro x' q3;obtain rfl:=Option.some.inj q3;refine⟨fun m Y he=>?_,hS,J.mine n x (by simp[hb]) hρ⟩;simp only[aA0,nA] at Y;split at Y
     ·cases Y
     ·rename_i qz;exact qz (J.hok.inj m n x (by simpa using Y) (by simp[hb]) he hρ)
    ·intro ρ' κ' h' e1 e2 _;refine⟨hl,.inr ⟨x,_,T,fr,e1,sO _ h2,by rw[qi];exact h3,fun _=>hS,by simp,by rw[qi,h5,e2],by rw[H,qi];exact qo,aAq fun m Y=>?_⟩⟩;have qk:∀y,S y→(fV w x (.cells (vM O (l.length*i.size) ((List.range (F.length*i.size)).map f')) T fr)).heap[y]? = w.heap[y]?:=fun y hy=>lN _ _ (fun e=>hS (e ▸ hy));rw[vY Y,ha m];rw[H] at Y;by_cases qg:m<l.length*i.size
     ·rw[if_pos qg,if_neg (by omega)];obtain⟨g1,g2,g3⟩:=wU qg;have:=h7 _ _ g1 g2;rw[g3] at this;exact⟨this.1,this.2.mono (fun _ h=>h) qk⟩
     ·rw[if_neg qg,if_pos (by omega)];have qf:m-l.length*i.size<F.length*i.size:=by omega
      have e:((List.range (F.length*i.size)).map f').getD (m-l.length*i.size) undef=f' (m-l.length*i.size):=by simp[List.getD,qf]
      rw[e];exact⟨U.one _ qf,(U.rc _ qf).mono (fun _ h=>h) qk⟩
    ·refine .loc _ _ _ _ fun k' l2 z ql=>?_;simp only[hput,if_true,Option.some.injEq,Blk.arr.injEq] at ql;obtain⟨rfl,rfl,rfl⟩:=ql;refine⟨by simp,_,_,rfl,M,hd,fun _=>⟨x,by simp,by simp⟩,fun _ _=>.inr ⟨x,by simp,rfl,by simpa using qm⟩⟩
  ·-- it grows
   have qd:cap<l.length+F.length:=by omega
   have hc:=I w.drew rfl;have qn:=hp w.drew rfl;have qx:=growslice_fits (bytes:=i.bytes) qd (by omega);have q6:¬(9223372036854775807<(l.length:Int)+(F.length:Int)):=by omega
   have q5:¬(281474976710656<Builtin.nextslicecap (l.length+F.length) cap*i.bytes):=by omega
   have hn:¬(l.length+F.length≤cap):=by omega
   have qp:=grownCap_ge w (l.length+F.length) cap e;have qy:=grownCap_le_maxLen w (l.length+F.length) cap e (by unfold maxLen;omega);unfold maxLen at qy;have qt:=size_zeroCells zv.cells (grownCap w (l.length+F.length) cap e-(l.length+F.length));generalize hg:((List.range (l.length*i.size)).map f).toArray++((List.range (F.length*i.size)).map f').toArray++Builtin.zeroCells zv.cells (grownCap w (l.length+F.length) cap e-(l.length+F.length))=cs
   have hq:cs.size=grownCap w (l.length+F.length) cap e*i.size:=by
    rw[←hg];simp only[Array.size_append,List.size_toArray,List.length_map,List.length_range,qt,q4];rw[←Nat.add_mul,←Nat.add_mul];congr 1;omega
   have ha:∀m,m<l.length*i.size+F.length*i.size→cs.getD m undef=if m<l.length*i.size then f m else f' (m-l.length*i.size):=by
    intro m Y;rw[←hg];by_cases L:m<l.length*i.size
    ·rw[if_pos L];simp[Array.getElem?_append,L,show m<l.length*i.size+F.length*i.size by omega]
    ·rw[if_neg L];simp[Array.getElem?_append,Y,List.getElem_append,L]
   have qw:Ext w (w.drew.alloc (.cells cs e)):=(Ext.of_heap (w':=w.drew) rfl rfl rfl).trans (Ext.push w.drew _)
   obtain ⟨ρ',κ',qq,q2⟩:=hk.addArr qw qb (k:=i.size) (l:=l++F) (cs:=cs) (T:=e) (fr:=(0,0)) (x:=w.heap.size) (cap:=grownCap w (l.length+F.length) cap e) (Nat.le_refl _) (xQ w.drew _) (fun j _ hj=>by omega)
    hl (by rw[hq,List.length_append];exact Nat.mul_le_mul_right _ qp) (aAq fun m Y=>by
      rw[vY Y];rw[H] at Y;rw[ha m Y];by_cases L:m<l.length*i.size
      · rw[if_pos L,if_pos L];exact⟨hR.one _ L,hR.rc _ L⟩
      · rw[if_neg L,if_neg L];exact⟨U.one _ (by omega),U.rc _ (by omega)⟩) ⟨by rw[List.length_append];exact qp,by omega,by rw[hq];exact Nat.le_refl _⟩
   refine⟨_,_,_,_,ρ',κ',hK,?_,qq,by rw[←List.length_append];exact q2⟩;simp[Builtin.append_,run_underlying hu,run_underlying qj,sizeOf,typeInfo,zeroValue,hi,hz,Builtin.lenOf,hn,q6,q5,Question.forced,hc,qn,newRow];rw[←hg];exact⟨rfl,by rw[Array.append_assoc];rfl⟩
 ·exact hv.elim
end
end Go.Vs
