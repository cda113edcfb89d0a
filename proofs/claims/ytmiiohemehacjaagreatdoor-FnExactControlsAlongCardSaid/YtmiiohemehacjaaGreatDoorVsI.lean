/- A name is forgotten; append. -/
import Derived.Calls
import Derived.Orders
import Derived.Still
import Derived.Laws.Sem
import Derived.Lib.ItoaNum
import Derived.Laws.Cells
import Derived.Laws.Slices
import GoSem.Dispatch
import Derived.Laws.StructEq
import Derived.Laws.World
import Derived.Laws.MakeOwn
import Derived.Laws.Append
import Derived.Laws.AppendOwn
set_option linter.all false
set_option maxHeartbeats 8000000
namespace Go.Vs
section
class Envs where
 l:List (Nat×(Option Obj->Prop))
def envs [Envs]:List (Nat×(Option Obj->Prop)):=Envs.l
end
section
variable [Envs]
inductive Name where
 |b (j:Nat)
 |t (slot j:Nat)
 deriving DecidableEq
inductive AV where
 |v (x:Value)
 |sl (k:Nat) (l:List (List AV))
 |ro (c:List AV)
 |loc (n:Name) (off len:Nat)
 |ptr (n:Name) (e c:Nat)
 |fn (f:FuncId) (caps:List AV)
 |agg (c:List AV)
 |tup (c:List AV)
 |junk
 deriving Inhabited
inductive Blk where
 |var (c:List AV) (fz:Bool)
 |arr (k:Nat) (l:List (List AV)) (fz:Bool)
def Blk.k:Blk->Nat
 |.var _ _=>0
 |.arr k _ _=>k
def Blk.fz:Blk->Bool
 |.var _ z=>z
 |.arr _ _ z=>z
def Blk.same:Blk->Blk->Prop
 |.var c _,.var c' _=>c.length=c'.length
 |.arr k l _,.arr k' l' _=>k=k'∧l.length=l'.length
 |_,_=>False
theorem Blk.same_refl (b:Blk):b.same b:=by cases b<;>simp[Blk.same]
theorem Blk.same_trans {a b c:Blk} (h:a.same b) (h':b.same c):a.same c:=by
 grind [Blk.same,Blk]
theorem Blk.same_k {a b:Blk} (h:a.same b):a.k=b.k:=by
 grind [Blk.same,Blk.k,Blk]
inductive RC (S:Nat->Prop) (w:World):AV->Value->Prop
 |v (x:Value):RC S w (.v x) x
 | sl (k:Nat) (l:List (List AV)) (base:Option Addr) (cap x off:Nat) (xs:Nat->Value)
   (hb:l≠[]->base=some ⟨x,off,none⟩∧S x)
   (hc:∀i j,i<l.length->j<k->w.cell? ⟨x,off+(i*k+j),none⟩=some (xs (i*k+j)))
   (ho:∀i j,i<l.length->j<k->(xs (i*k+j)).oneCell'=true)
   (hr:∀i j,i<l.length->j<k->RC S w ((l.getD i []).getD j .junk) (xs (i*k+j)))
   (hk:∀i,i<l.length->(l.getD i []).length=k)
   (hcap:l.length<=cap∧cap<2 ^ 63):RC S w (.sl k l) (.slice base l.length cap)
 | ro (c:List AV) (x off:Nat) (xs:Nat->Value) (hS:S x)
   (hc:∀j,j<c.length->w.cell? ⟨x,off+j,none⟩=some (xs j))
   (ho:∀j,j<c.length->(xs j).oneCell'=true)
   (hr:∀j,j<c.length->RC S w (c.getD j .junk) (xs j)):RC S w (.ro c) (.pointer (some ⟨x,off,none⟩))
 | fn (f:FuncId) (c:List AV) (vs:Array Value) (hl:c.length=vs.size)
   (hr:∀j,j<c.length->RC S w (c.getD j .junk) (vs.getD j undef)):RC S w (.fn f c) (.func (.func f) #[] vs)
 | agg (c:List AV) (vs:Array Value) (hl:c.length=vs.size)
   (hr:∀j,j<c.length->RC S w (c.getD j .junk) (vs.getD j undef)):RC S w (.agg c) (.agg vs)
 | tup (c:List AV) (vs:Array Value) (hl:c.length=vs.size)
   (hr:∀j,j<c.length->RC S w (c.getD j .junk) (vs.getD j undef)):RC S w (.tup c) (.tuple vs)
theorem cell?_of_block {w w':World}{b off:Nat} (h:w'.heap[b]? = w.heap[b]?):w'.cell? ⟨b,off,none⟩=w.cell? ⟨b,off,none⟩:=by
 simp[World.cell?,h]
theorem RC.mono {S S':Nat->Prop}{w w':World} (I:∀b,S b->S' b) (J:∀b,S b->w'.heap[b]? = w.heap[b]?) {x:AV}{v:Value} (h:RC S w x v):RC S' w' x v:=by
 induction h with
 |v x=>exact .v x
 | sl k l base cap x off xs hb hc ho hr hk hcap ih =>
  by_cases F:l=[]
  .subst F;exact .sl k [] base cap x off xs (by simp) (by simp) (by simp) (by simp) (by simp) hcap
  .refine .sl k l base cap x off xs (λh=>⟨(hb h).1,I _ (hb h).2⟩) (λi j hi H=>?_) ho ih hk hcap;rw[cell?_of_block (J _ (hb F).2)];exact hc i j hi H
 | ro c x off xs hx hc ho hr ih =>
  refine .ro c x off xs (I _ hx) (λj H=>?_) ho ih;rw[cell?_of_block (J _ hx)];exact hc j H
 |fn f c vs F hr ih=>exact .fn f c vs F ih
 |agg c vs F hr ih=>exact .agg c vs F ih
 |tup c vs F hr ih=>exact .tup c vs F ih
mutual
def AV.has (n:Name):AV->Bool
 |.loc m _ _=>decide (m=n)
 |.ptr m _ _=>decide (m=n)
 |.fn _ c=>oD n c
 |.agg c=>oD n c
 |.tup c=>oD n c
 |_=>false
def oD (n:Name):List AV->Bool
 | []=>false
 |x::r=>x.has n||oD n r
end
theorem qZ {n:Name}:∀{c:List AV}{j:Nat},oD n c=false->(c.getD j .junk).has n=false
 | [],j,_=>by simp[AV.has]
 |x::r,0,h=>by simp[oD] at h;simpa using h.1
 |x::r,j+1,h=>by simp[oD] at h;simpa using qZ (c:=r) (j:=j) h.2
def Blk.has (n:Name):Blk->Bool
 |.var c _=>oD n c
 |.arr _ _ _=>false
/-! ## the open reading -/
def aDm (ρ:Name->Option Nat) (κ:Name->Nat) (h:Name->Option Blk) (n:Name) (off len:Nat) (v:Value):Prop:=
 ∀ k l z,h n=some (.arr k l z)->off+len<=l.length∧∃base cap,v=.slice base len cap∧len<=cap∧cap<2 ^ 63∧
  (0<len->∃x,ρ n=some x∧base=some ⟨x,off*k,none⟩)∧
  (off=0->len=l.length->(ρ n=none∧base=none∧cap=0)∨∃x,ρ n=some x∧base=some ⟨x,0,none⟩∧cap*k<=κ n)
def aEi (ρ:Name->Option Nat) (h:Name->Option Blk) (n:Name) (e c:Nat) (v:Value):Prop:=
 ∀b,h n=some b->∃x,ρ n=some x∧v=.pointer (some ⟨x,e*b.k+c,none⟩)
inductive RV (S:Nat->Prop) (w:World) (ρ:Name->Option Nat) (κ:Name->Nat) (h:Name->Option Blk):AV->Value->Prop
 |junk (v:Value):RV S w ρ κ h .junk v
 |clo {x:AV}{v:Value} (hx:RC S w x v):RV S w ρ κ h x v
 |loc (n:Name) (off len:Nat) (v:Value) (hv:aDm ρ κ h n off len v):RV S w ρ κ h (.loc n off len) v
 |ptr (n:Name) (e c:Nat) (v:Value) (hv:aEi ρ h n e c v):RV S w ρ κ h (.ptr n e c) v
 | fn (f:FuncId) (c:List AV) (vs:Array Value) (hl:c.length=vs.size)
   (hr:∀j,j<c.length->RV S w ρ κ h (c.getD j .junk) (vs.getD j undef)):RV S w ρ κ h (.fn f c) (.func (.func f) #[] vs)
 | agg (c:List AV) (vs:Array Value) (hl:c.length=vs.size)
   (hr:∀j,j<c.length->RV S w ρ κ h (c.getD j .junk) (vs.getD j undef)):RV S w ρ κ h (.agg c) (.agg vs)
 | tup (c:List AV) (vs:Array Value) (hl:c.length=vs.size)
   (hr:∀j,j<c.length->RV S w ρ κ h (c.getD j .junk) (vs.getD j undef)):RV S w ρ κ h (.tup c) (.tuple vs)
def dY (ρ ρ':Name->Option Nat) (κ κ':Name->Nat) (h h':Name->Option Blk) (n:Name):Prop:=
 ∀b',h' n=some b'->ρ' n=ρ n∧κ' n=κ n∧∃b,h n=some b∧b.same b'
theorem aDm.mono {ρ ρ':Name->Option Nat}{κ κ':Name->Nat}{h h':Name->Option Blk}{n:Name}{off len:Nat}{v:Value}
  (H:dY ρ ρ' κ κ' h h' n) (I:aDm ρ κ h n off len v):aDm ρ' κ' h' n off len v:=by
 intro k l z F
 all_goals grind [Blk.same,Blk,dY,aDm]
theorem aEi.mono {ρ ρ':Name->Option Nat}{κ κ':Name->Nat}{h h':Name->Option Blk}{n:Name}{e c:Nat}{v:Value}
  (F:dY ρ ρ' κ κ' h h' n) (H:aEi ρ h n e c v):aEi ρ' h' n e c v:=by
 grind [Blk.same_k,dY,aEi]
theorem RV.mono {S S':Nat->Prop}{w w':World}{ρ ρ':Name->Option Nat}{κ κ':Name->Nat}{h h':Name->Option Blk}
  (O:∀b,S b->S' b) (U:∀b,S b->w'.heap[b]? = w.heap[b]?) {x:AV}{v:Value}
  (L:RV S w ρ κ h x v) (J:∀n,x.has n=true->dY ρ ρ' κ κ' h h' n):RV S' w' ρ' κ' h' x v:=by
 have H:∀c:List AV,∀j,j<c.length->∀n,(c.getD j .junk).has n=true->oD n c=true:=by
  grind [qZ]
 induction L with
 |junk v=>exact .junk v
 |clo L=>exact .clo (L.mono O U)
 |loc n off len v hv=>exact .loc n off len v (hv.mono (J n (by simp[AV.has])))
 |ptr n e c v hv=>exact .ptr n e c v (hv.mono (J n (by simp[AV.has])))
 |fn f c vs hl hr ih=>exact .fn f c vs hl λj F=>ih j F λn I=>J n (by simpa[AV.has] using H c j F n I)
 |agg c vs hl hr ih=>exact .agg c vs hl λj F=>ih j F λn I=>J n (by simpa[AV.has] using H c j F n I)
 |tup c vs hl hr ih=>exact .tup c vs hl λj F=>ih j F λn I=>J n (by simpa[AV.has] using H c j F n I)
/-! ## the blocks -/
def aJo (fr:Nat×Nat) (n:Nat):Prop:=∀j,j<n->¬(fr.1<=j∧j<fr.2)
def zM (S:Nat->Prop) (w:World) (ρ:Name->Option Nat) (κ:Name->Nat) (h:Name->Option Blk) (n:Name):Blk->Prop
 | .var c z=>∃x cs T fr,ρ n=some x∧w.heap[x]? = some (.cells cs T fr)∧aJo fr cs.size∧(z=false->¬S x)∧(z=true->S x)∧cs.size=κ n∧
   c.length<=cs.size∧∀j,j<c.length->(cs.getD j undef).oneCell'=true∧RV S w ρ κ h (c.getD j .junk) (cs.getD j undef)
 | .arr k l z=>(∀i,i<l.length->(l.getD i []).length=k)∧((ρ n=none∧l=[])∨∃x cs T fr,ρ n=some x∧w.heap[x]? = some (.cells cs T fr)∧aJo fr cs.size∧
     (z=false->¬S x)∧(z=true->S x)∧cs.size=κ n∧l.length*k<=cs.size∧
     ∀i j,i<l.length->j<k->(cs.getD (i*k+j) undef).oneCell'=true∧RC S w ((l.getD i []).getD j .junk) (cs.getD (i*k+j) undef))
def Env (S:Nat->Prop) (w:World):Prop:=∀p,p∈envs->S p.1∧p.2 w.heap[p.1]?
class Tab (g:Nat) (p:Option Obj->Prop) extends Envs where
 has:∀S w,@Env toEnvs S w->S g∧p w.heap[g]?
theorem Env.mono {S S':Nat->Prop}{w w':World} (h:Env S w) (H:∀b,S b->S' b) (I:∀b,S b->w'.heap[b]? = w.heap[b]?):Env S' w':=
 λp F=>⟨H _ (h p F).1,by rw[I _ (h p F).1];exact(h p F).2⟩
structure HOK (S:Nat->Prop) (w:World) (ρ:Name->Option Nat) (κ:Name->Nat) (h:Name->Option Blk):Prop where
 blk:∀n b,h n=some b->zM S w ρ κ h n b
 inj:∀n m x,(h n).isSome->(h m).isSome->ρ n=some x->ρ m=some x->n=m
 dom:∀b,S b->b<w.heap.size
 env:Env S w
theorem zM.mono {S S':Nat->Prop}{w w':World}{ρ ρ':Name->Option Nat}{κ κ':Name->Nat}{h h':Name->Option Blk}{n:Name}{b:Blk}
  (U:∀b,S b->S' b) (L:∀x,ρ n=some x->S' x->S x) (hw:∀b,S b->w'.heap[b]? = w.heap[b]?)
  (hb:zM S w ρ κ h n b) (hx:∀x,ρ n=some x->w'.heap[x]? = w.heap[x]?) (e1:ρ' n=ρ n) (e2:κ' n=κ n)
  (hn:∀m,b.has m=true->dY ρ ρ' κ κ' h h' m):zM S' w' ρ' κ' h' n b:=by
 cases b with
 | var c z =>
  obtain⟨x,cs,T,fr,F,h2,Y,Z,H,h5,h6,J⟩:=hb;refine⟨x,cs,T,fr,by rw[e1];exact F,by rw[hx x F];exact h2,Y,λI hs=>Z I (L _ F hs),λI=>U _ (H I),by rw[e2];exact h5,h6,λj O=>⟨(J j O).1,(J j O).2.mono U hw λm hm=>hn m ?_⟩⟩
  all_goals grind [Blk.has,qZ]
 | arr k l z =>
  obtain⟨h0,h⟩:=hb;refine⟨h0,?_⟩;rcases h with⟨F,h2⟩|⟨x,cs,T,fr,F,h2,Y,Z,H,h5,h6,J⟩
  .grind
  .exact .inr ⟨x,cs,T,fr,by rw[e1];exact F,by rw[hx x F];exact h2,Y,λI hs=>Z I (L _ F hs),λI=>U _ (H I),by rw[e2];exact h5,h6,λi j hi O=>⟨(J i j hi O).1,(J i j hi O).2.mono U hw⟩⟩
end
section
def powP:Option Obj->Prop:=λo=>∃T fr,o=some (.cells (Lib.pow10Tab.map λz=>Value.int .u64 z).toArray T fr)
theorem Tab.at {g:Nat}{p:Option Obj->Prop} [h:Tab g p] {S:Nat->Prop}{w:World} (F:Env S w):S g∧p w.heap[g]?:=h.has S w F
end
section
variable [Envs]
structure FSt where
 s:Nat->AV
 h:Name->Option Blk
structure Ctx where
 nt:Nat
 w0:World
 S0:Nat->Prop
 Mut:Nat->Prop
 ρ0:Nat->Option Nat:=λ_=>none
 κ0:Nat->Nat:=λ_=>0
 h0:Nat->Option Blk:=λ_=>none
structure OK (C:Ctx) (σ:FSt) (a:Act) (w:World) (S:Nat->Prop) (ρ:Name->Option Nat) (κ:Name->Nat):Prop where
 nt:a.tmps.size=C.nt
 defers:a.defers=[]
 slots:∀t,RV S w ρ κ σ.h (σ.s t) (a.tmps.getD t undef)
 hok:HOK S w ρ κ σ.h
 size:C.w0.heap.size<=w.heap.size
 old:∀b,b<C.w0.heap.size->¬C.Mut b->w.heap[b]? = C.w0.heap[b]?
 mine:∀n x,(σ.h n).isSome->ρ n=some x->C.w0.heap.size<=x∨C.Mut x
 S0:∀b,C.S0 b->S b
 Snew:∀b,S b->C.S0 b∨C.w0.heap.size<=b∨C.Mut b
 out:w.os=C.w0.os∧w.output=C.w0.output
 keep:∀j b,σ.h (.b j)=some b->ρ (.b j)=C.ρ0 j∧κ (.b j)=C.κ0 j∧∃b0,C.h0 j=some b0∧b0.same b
def upd (s:Nat->AV) (d:Option Nat) (x:AV):Nat->AV:=
 match d with
 |some d=>λt=>if t=d then x else s t
 |none=>s
def hput (h:Name->Option Blk) (n:Name) (b:Option Blk):Name->Option Blk:=λm=>if m=n then b else h m
theorem OK.put {C:Ctx}{σ:FSt}{a:Act}{w:World}{S:Nat->Prop}{ρ:Name->Option Nat}{κ:Name->Nat} (F:OK C σ a w S ρ κ) {x:AV}{v:Value}
  (J:RV S w ρ κ σ.h x v) {d:Option Nat} (H:∀d',d=some d'->d'<C.nt):OK C ⟨upd σ.s d x,σ.h⟩ (a.put d v) w S ρ κ:=by
 cases d with
 |none=>exact F
 | some d =>
  have H:=H d rfl;refine{F with nt:=by simp[Act.put,F.nt],defers:=by simp[Act.put,F.defers],slots:=λt=>?_};simp only[upd,Act.put];by_cases I:t=d
  .subst I;have:t<a.tmps.size:=by rw[F.nt];exact H
   simp only[if_true];have e:(a.tmps.setIfInBounds t v).getD t undef=v:=by simp[this]
   rw[e];exact J
  .simp only[I,if_false]
   have e:(a.tmps.setIfInBounds d v).getD t undef=a.tmps.getD t undef:=by
    simp[Array.getElem?_setIfInBounds_ne (Ne.symm I)]
   rw[e];exact F.slots t
def Ext (w w':World):Prop:=w.heap.size<=w'.heap.size∧(∀b,b<w.heap.size->w'.heap[b]? = w.heap[b]?)∧w'.os=w.os∧w'.output=w.output
theorem Ext.refl (w:World):Ext w w:=⟨Nat.le_refl _,λ_ _=>rfl,rfl,rfl⟩
theorem Ext.of_heap {w w':World} (h:w'.heap=w.heap) (F:w'.os=w.os) (h2:w'.output=w.output):Ext w w':=⟨by rw[h];exact Nat.le_refl _,λ_ _=>by rw[h],F,h2⟩
theorem Ext.push (w:World) (o:Obj):Ext w {w with heap:=w.heap.push o}:=
 ⟨by simp,λb F=>by simp[Array.getElem?_push,Nat.ne_of_lt F],rfl,rfl⟩
theorem Ext.trans {w H I:World} (h:Ext w H) (h':Ext H I):Ext w I:=
 ⟨Nat.le_trans h.1 h'.1,λb F=>by rw[h'.2.1 b (Nat.lt_of_lt_of_le F h.1),h.2.1 b F],h'.2.2.1.trans h.2.2.1,h'.2.2.2.trans h.2.2.2⟩
theorem dY.refl (ρ:Name->Option Nat) (κ:Name->Nat) (h:Name->Option Blk) (n:Name):dY ρ ρ κ κ h h n:=
 λF H=>⟨rfl,rfl,F,H,F.same_refl⟩
theorem HOK.lt {S:Nat->Prop}{w:World}{ρ:Name->Option Nat}{κ:Name->Nat}{h:Name->Option Blk} (F:HOK S w ρ κ h) {n:Name}{x:Nat}
  (J:(h n).isSome) (O:ρ n=some x):x<w.heap.size:=by
 obtain⟨b,I⟩:=Option.isSome_iff_exists.1 J;have:=F.blk n b I
 have L:∀{x:Nat}{cs:Array Value}{T:TypeId}{fr:Nat×Nat},w.heap[x]? = some (.cells cs T fr)->x<w.heap.size:=by
  grind
 cases b with
 | var c z =>
  obtain⟨y,cs,T,fr,H,h2,_⟩:=this
  all_goals grind
 | arr k l z =>
  obtain⟨_,⟨H,_⟩|⟨y,cs,T,fr,H,h2,_⟩⟩:=this
  all_goals grind
theorem HOK.ext {S:Nat->Prop}{w w':World}{ρ:Name->Option Nat}{κ:Name->Nat}{h:Name->Option Blk} (F:HOK S w ρ κ h) (I:Ext w w'):HOK S w' ρ κ h where
 blk n b H:=(F.blk n b H).mono (λ_ h=>h) (λ_ _ h=>h) (λb H=>I.2.1 b (F.dom b H)) (λx J=>I.2.1 x (F.lt (by simp[H]) J)) rfl rfl (λm _=>dY.refl _ _ _ _)
 inj:=F.inj
 dom b H:=Nat.lt_of_lt_of_le (F.dom b H) I.1
 env:=F.env.mono (λ_ h=>h) λb H=>I.2.1 b (F.dom b H)
theorem OK.ext {C:Ctx}{σ:FSt}{a:Act}{w w':World}{S:Nat->Prop}{ρ:Name->Option Nat}{κ:Name->Nat} (hok:OK C σ a w S ρ κ) (he:Ext w w'):OK C σ a w' S ρ κ where
 nt:=hok.nt
 defers:=hok.defers
 slots t:=(hok.slots t).mono (λ_ h=>h) (λb hb=>he.2.1 b (hok.hok.dom b hb)) (λn _=>dY.refl _ _ _ _)
 hok:=hok.hok.ext he
 size:=Nat.le_trans hok.size he.1
 old b hb hm:=by rw[he.2.1 b (Nat.lt_of_lt_of_le hb hok.size)];exact hok.old b hb hm
 mine:=hok.mine
 S0:=hok.S0
 Snew:=hok.Snew
 out:=⟨he.2.2.1.trans hok.out.1,he.2.2.2.trans hok.out.2⟩
 keep:=hok.keep
def gP (n:Name) (σ:FSt):Prop:=(σ.h n=none∧∀j,n≠.b j)∧(∀t,(σ.s t).has n=false)∧∀m b,σ.h m=some b->b.has n=false
theorem OK.add {C:Ctx}{σ:FSt}{a:Act}{w w':World}{S:Nat->Prop}{ρ:Name->Option Nat}{κ:Name->Nat} (hok:OK C σ a w S ρ κ) (he:Ext w w')
  {n:Name} (hf:gP n σ) {b:Blk}{ox:Option Nat}{kn:Nat} (hd:∀x,ox=some x->w.heap.size<=x)
  (hb:∀ρ' κ' h',ρ' n=ox->κ' n=kn->(∀m,m≠n->dY ρ ρ' κ κ' σ.h h' m)->zM S w' ρ' κ' h' n b) :
  OK C ⟨σ.s,hput σ.h n (some b)⟩ a w' S (λm=>if m=n then ox else ρ m) (λm=>if m=n then kn else κ m):=by
 have hn:∀m,m≠n->dY ρ (λm=>if m=n then ox else ρ m) κ (λm=>if m=n then kn else κ m) σ.h (hput σ.h n (some b)) m:=by
  intro m L Y O;simp only[hput,L,if_false] at O⊢;exact⟨trivial,trivial,Y,O,Y.same_refl⟩
 have F:=hok.ext he
 have H:∀j c,hput σ.h n (some b) (.b j)=some c->(if Name.b j=n then ox else ρ (.b j))=C.ρ0 j∧(if Name.b j=n then kn else κ (.b j))=C.κ0 j∧∃Z,C.h0 j=some Z∧Z.same c:=by
  grind [hput,OK,gP]
 refine{F with slots:=λt=>?_,hok:=⟨λm c hc=>?_,λm U x J h2 h3 h4=>?_,F.hok.dom,F.hok.env⟩,mine:=λm x J h2=>?_,keep:=H}
 .refine(F.slots t).mono (λ_ h=>h) (λ_ _=>rfl) λm L=>hn m ?_;rintro rfl;rw[hf.2.1 t] at L;cases L
 .by_cases I:m=n
  .grind [hput]
  .simp only[hput,I,if_false] at hc;refine(F.hok.blk m c hc).mono (λ_ h=>h) (λ_ _ h=>h) (λ_ _=>rfl) (λ_ _=>rfl) (by simp[I]) (by simp[I]) λU ha=>hn U ?_
   all_goals grind [gP]
 .have hg:∀m x,m≠n->(hput σ.h n (some b) m).isSome->(if m=n then ox else ρ m)=some x->x<w.heap.size:=by
   intro m x L J h2;simp only[hput,L,if_false] at J h2;exact hok.hok.lt J h2
  by_cases e1:m=n<;>by_cases e2:U=n
  .rw[e1,e2]
  .grind
  .grind
  .simp only[hput,e1,e2,if_false] at J h2 h3 h4;exact hok.hok.inj m U x J h2 h3 h4
 all_goals grind [hput,OK]
/-! ## operands -/
def AV.ofValue:Value->AV
 |.agg cs=>.agg (cs.toList.map λx=>.v x)
 |x=>.v x
def evO (s:Nat->AV):Operand->AV
 |.tmp t=>s t
 |.const v=>.ofValue v
 |.global _=>.junk
 |.func f=>.fn f []
theorem aKb {S:Nat->Prop}{w:World} (cs:Array Value):RC S w (.agg (cs.toList.map λx=>.v x)) (.agg cs):=by
 refine .agg _ _ (by simp) λj F=>?_;simp only[List.length_map,Array.length_toList] at F;simp[List.getD,F];exact .v _
theorem OK.ev {C:Ctx}{σ:FSt}{a:Act}{w:World}{S:Nat->Prop}{ρ:Name->Option Nat}{κ:Name->Nat} (F:OK C σ a w S ρ κ) (x:Operand) :
  RV S w ρ κ σ.h (evO σ.s x) (a.eval x):=by
 cases x with
 |tmp t=>exact F.slots t
 |const v=>cases v<;>first|exact .clo (aKb _)|exact .clo (.v _)
 |global g=>exact .junk _
 |func f=>exact .fn f [] #[] rfl (by simp)
end
section
variable [Envs]
inductive AOp where
 |mv (x:Operand)
 |pick (c a b:Operand)
 |load (g:Bool) (k:Nat) (a:Operand)
 |fieldAddr (off:Nat) (x:Operand)
 |loadV (g:Bool) (k:Nat) (a:Operand)
 |fieldV (off:Nat) (x:Operand)
 |field (g:Bool) (off k:Nat) (x:Operand)
 |idxSl (k:Nat) (x i:Operand)
 |idxArr (n k:Nat) (x i:Operand)
 |idxAgg (g:Bool) (n k:Nat) (x i:Operand)
 |idxStr (x i:Operand)
 |bin (op:BinOp) (x y:Operand)
 |binS (op:BinOp) (x y:Operand)
 |binB (op:BinOp) (x y:Operand)
 |un (op:UnOp) (x:Operand)
 |conv (k:IntKind) (x:Operand)
 |b2s (x:Operand)
 |eqA (neg:Bool) (ks:List Nat) (x y:Operand)
 |idxB (x y:Operand)
 |len (x:Operand)
 |lenS (x:Operand)
 |lenC (n:Nat)
 |slc (k:Nat) (x:Operand) (lo hi:Option Operand)
 |sstr (x:Operand) (lo hi:Option Operand)
 |nilc (x:Operand)
 |extract (x:Operand) (i:Nat)
 |build (z:List AV) (parts:List (Nat×Nat×Operand))
 |mkfn (f:FuncId) (caps:List Operand)
 |mm (mx:Bool) (x y:Operand)
 |box (x:Operand)
 |alloc (z:List AV)
 |bslice (k n:Nat) (z:List AV) (parts:List (Nat×Operand))
 |mk (k bytes:Nat) (z:List AV) (n:Operand)
 |call (f:Operand) (args:List Operand) (bor:List Nat)
 |store (k:Nat) (a x:Operand)
 |append (k bytes:Nat) (a x:Operand)
 |appendC (k bytes:Nat) (a x:Operand)
 |bsliceC (k n:Nat) (z:List AV) (parts:List (Nat×Operand))
 |clr (k:Nat) (z:List AV) (x:Operand)
 deriving Inhabited
def nN (h:Name->Option Blk):AV->Bool
 |.v x=>x.oneCell'
 |.sl _ _=>true
 |.ro _=>true
 |.fn _ _=>true
 |.loc n _ _=>match h n with|some (.arr _ _ _)=>true|_=>false
 |.ptr n _ _=>(h n).isSome
 |_=>false
def kG (h:Name->Option Blk):AV->Option (List AV)
 |.agg c=>if c.all (nN h) then some c else none
 |x=>if nN h x then some [x] else none
def AV.mk (g:Bool) (c:List AV):AV:=if g then .agg c else c.headD .junk
def Blk.row:Blk->Nat->List AV
 |.var c _,0=>c
 |.var _ _,_+1=>[]
 |.arr _ l _,e=>l.getD e []
def oG (op:BinOp) (k:IntKind) (a b:Int):Int:=
 let x:=BitVec.ofInt k.bits a
 let y:=BitVec.ofInt k.bits b
 k.wrap (match op with|.and=>x &&& y|.or=>x ||| y|.xor=>x ^^^ y|_=>x &&& ~~~y).toNat
def aGm (op:BinOp) (k k':IntKind) (a b:Int) (K:AV->Prop):Prop:=
 match op with
 |.add=>k=k'∧K (.v (.int k (k.wrap (a+b))))
 |.sub=>k=k'∧K (.v (.int k (k.wrap (a-b))))
 |.mul=>k=k'∧K (.v (.int k (k.wrap (a*b))))
 |.quo=>(k=k'∧b≠0)∧K (.v (.int k (k.wrap (a.tdiv b))))
 |.rem=>(k=k'∧b≠0)∧K (.v (.int k (a.tmod b)))
 |.eql=>k=k'∧K (.v (.bool (a==b)))
 |.neq=>k=k'∧K (.v (.bool (a != b)))
 |.lss=>k=k'∧K (.v (.bool (a<b)))
 |.leq=>k=k'∧K (.v (.bool (a<=b)))
 |.gtr=>k=k'∧K (.v (.bool (a>b)))
 |.geq=>k=k'∧K (.v (.bool (a≥b)))
 |.shl=>0<=b∧K (.v (.int k (k.wrap (a*2 ^ (min b.toNat k.bits)))))
 |.shr=>0<=b∧K (.v (.int k (a.fdiv (2 ^ (min b.toNat k.bits)))))
 |.and=>k=k'∧K (.v (.int k (oG .and k a b)))
 |.or=>k=k'∧K (.v (.int k (oG .or k a b)))
 |.xor=>k=k'∧K (.v (.int k (oG .xor k a b)))
 |.andNot=>k=k'∧K (.v (.int k (oG .andNot k a b)))
def aBs (op:BinOp) (x y:ByteArray) (K:AV->Prop):Prop:=
 match op with
 |.add=>x.size+y.size<=9223372036854775807∧K (.v (.string (x++y)))
 |.eql=>K (.v (.bool (x.toList==y.toList)))
 |.neq=>K (.v (.bool (!(x.toList==y.toList))))
 |_=>False
def y7 (op:BinOp) (x y:Bool) (K:AV->Prop):Prop:=
 match op with
 |.eql=>K (.v (.bool (x==y)))
 |.neq=>K (.v (.bool (!(x==y))))
 |_=>False
def lay:List AV->Nat->List AV->List AV
 |cs,_,[]=>cs
 |cs,o,x::r=>lay (cs.set o x) (o+1) r
def layAll (ev:Operand->AV) (h:Name->Option Blk):List AV->List (Nat×Nat×Operand)->(List AV->Prop)->Prop
 |cs,[],K=>K cs
 | cs,(o,n,x)::r,K=>match kG h (ev x) with
  |some c=>(c.length=n∧o+n<=cs.length)∧layAll ev h (lay cs o c) r K
  |none=>False
def eqV:Nat->Value->Value->Option Bool
 |0,.int k a,.int k' b=>if k=k' then some (a==b) else none
 |1,.bool a,.bool b=>some (a==b)
 |2,.string a,.string b=>some (a.toList==b.toList)
 |_,_,_=>none
def eqC:List Nat->List AV->List AV->Option Bool
 | [],[],[]=>some true
 | k::ks,.v x::r,.v y::s=>match eqV k x y,eqC ks r s with
  |some a,some b=>some (a&&b)
  |_,_=>none
 |_,_,_=>none
def oQ (k:Nat) (h:Name->Option Blk):AV->Option (List (List AV))
 |.sl k' l=>if k'=k then some l else none
 | .loc n off len=>match h n with
  |some (.arr k' l _)=>if k'=k then some ((l.drop off).take len) else none
  |_=>none
 |.v (.slice none 0 0)=>some []
 |_=>none
inductive Tag {α:Type} (a:α):Type where
 |x
 |y
def Br (b:Bool) (A B:Prop) (_:Tag (A,B)):Prop:=(b=true->A)∧(b=false->B)
theorem aMz {A B:Prop}{t:Tag (A,B)}:Br true A B t↔A:=⟨λh=>h.1 rfl,λh=>⟨λ_=>h,λh=>(by cases h)⟩⟩
theorem aLl {A B:Prop}{t:Tag (A,B)}:Br false A B t↔B:=⟨λh=>h.2 rfl,λh=>⟨λh=>(by cases h),λ_=>h⟩⟩
theorem Br.mk {b:Bool}{A B:Prop}{t:Tag (A,B)} (F:b=true->A) (h2:b=false->B):Br b A B t:=⟨F,h2⟩
theorem Br.get {b:Bool}{A B:Prop}{t:Tag (A,B)} (h:Br b A B t):(b=true->A)∧(b=false->B):=h
def BrW (b want:Bool) (A B:Prop):Prop:=match want with
 |true=>Br b A B .x
 |false=>Br b B A .x
theorem kQ {b F:Bool}{A B:Prop}:BrW b F A B↔(b=F->A)∧(b = !F->B):=by
 cases F
 .exact⟨λh=>⟨h.2,h.1⟩,λh=>⟨h.2,h.1⟩⟩
 .exact⟨λh=>⟨h.1,h.2⟩,λh=>⟨h.1,h.2⟩⟩
def rU:List (List AV)->Option (List Int)
 | []=>some []
 | [.v (.int .u8 n)]::r=>match rU r with
  |some l=>some (n::l)
  |none=>none
 |_=>none
def yS (s:ByteArray) (c:Int):Int:=match(List.range s.size).find? λi=>s[i]! == c.toNat.toUInt8 with
 |some i=>i
 |none=>-1
def aCp (ns:List Int):ByteArray:=⟨(ns.map λn=>UInt8.ofNat n.toNat).toArray⟩
def rR:AV->Bool
 |.v _=>true
 |_=>false
def rd (ev:Operand->AV) (h:Name->Option Blk) (K:AV->Prop):AOp->Prop
 |.mv x=>K (ev x)
 | .pick c a b=>match ev c with
  |.v (.bool t)=>Br t (K (ev a)) (K (ev b)) .x
  |_=>False
 | .load g k a=>match ev a with
  |.ro c=>k<=c.length∧K (.mk g (c.take k))
  | .ptr n e c=>match h n with
   |some b=>c+k<=(b.row e).length∧K (.mk g (((b.row e).drop c).take k))
   |none=>False
  |_=>False
 | .fieldAddr off x=>match ev x with
  | .ptr n e c=>match h n with
   |some _=>K (.ptr n e (c+off))
   |none=>False
  |.ro c=>off<=c.length∧K (.ro (c.drop off))
  |_=>False
 | .loadV g k a=>match ev a with
  | .ptr n e c=>match h n with
   |some (.var cs z)=>(c+k<=((Blk.var cs z).row e).length∧(!g||((((Blk.var cs z).row e).drop c).take k).all rR)=true)∧K (.mk g ((((Blk.var cs z).row e).drop c).take k))
   |_=>False
  |_=>False
 | .fieldV off x=>match ev x with
  | .ptr n e c=>match h n with
   |some (.var _ _)=>K (.ptr n e (c+off))
   |_=>False
  |_=>False
 | .field g off k x=>match ev x with
  |.agg c=>off+k<=c.length∧K (.mk g ((c.drop off).take k))
  |_=>False
 | .idxSl k x i=>match ev x,ev i with
  |.sl k' l,.v (.int _ i)=>(k'=k∧0<=i∧i<l.length)∧K (.ro (l.getD i.toNat []))
  | .loc n off len,.v (.int _ i)=>match h n with
   |some (.arr k' _ _)=>(k'=k∧0<=i∧i<len)∧K (.ptr n (off+i.toNat) 0)
   |_=>False
  |_,_=>False
 | .idxArr n k x i=>match ev x,ev i with
  |.ro c,.v (.int _ i)=>(0<=i∧i<n∧i.toNat*k<=c.length)∧K (.ro (c.drop (i.toNat*k)))
  | .ptr m e c,.v (.int _ i)=>match h m with
   |some _=>(0<=i∧i<n)∧K (.ptr m e (c+i.toNat*k))
   |none=>False
  |_,_=>False
 | .idxAgg g n k x i=>match ev x,ev i with
  |.agg c,.v (.int _ i)=>(0<=i∧i<n∧i.toNat*k+k<=c.length)∧K (.mk g ((c.drop (i.toNat*k)).take k))
  |_,_=>False
 | .idxStr x i=>match ev x,ev i with
  |.v (.string s),.v (.int _ i)=>(0<=i∧i<s.size)∧K (.v (.int .u8 (s.data.toList.getD i.toNat 0).toNat))
  |_,_=>False
 | .bin op x y=>match ev x,ev y with
  |.v (.int k a),.v (.int k' b)=>aGm op k k' a b K
  |_,_=>False
 | .binS op x y=>match ev x,ev y with
  |.v (.string a),.v (.string b)=>aBs op a b K
  |_,_=>False
 | .binB op x y=>match ev x,ev y with
  |.v (.bool a),.v (.bool b)=>y7 op a b K
  |_,_=>False
 | .un op x=>match op,ev x with
  |.not,.v (.bool b)=>K (.v (.bool (!b)))
  |.neg,.v (.int k n)=>K (.v (.int k (k.wrap (0-n))))
  |.xor,.v (.int k n)=>K (.v (.int k (oG .xor k (if k.signed then -1 else k.max) n)))
  |_,_=>False
 | .conv k x=>match ev x with
  |.v (.int _ n)=>K (.v (.int k (k.wrap n)))
  |_=>False
 | .len x=>match ev x with
  |.sl _ l=>K (.v (.int .i64 l.length))
  | .loc n _ len=>match h n with
   |some (.arr _ _ _)=>K (.v (.int .i64 len))
   |_=>False
  |.v (.slice _ n _)=>K (.v (.int .i64 n))
  |_=>False
 | .lenS x=>match ev x with
  |.v (.string s)=>K (.v (.int .i64 s.size))
  |_=>False
 |.lenC n=>K (.v (.int .i64 n))
 | .slc k x lo hi=>match ev x with
  | .sl k' l =>
   let f:Int->Int->Prop:=λlo hi=>(k'=k∧0<=lo∧lo<=hi∧hi<=l.length)∧K (.sl k ((l.take hi.toNat).drop lo.toNat))
   match lo.map ev,hi.map ev with
   |none,none=>f 0 l.length
   |some (.v (.int _ lo)),none=>f lo l.length
   |none,some (.v (.int _ hi))=>f 0 hi
   |some (.v (.int _ lo)),some (.v (.int _ hi))=>f lo hi
   |_,_=>False
  | .loc n off len=>match h n with
   | some (.arr k' _ _) =>
    let f:Int->Int->Prop:=λlo hi=>(k'=k∧0<=lo∧lo<=hi∧hi<=len)∧K (.loc n (off+lo.toNat) (hi-lo).toNat)
    match lo.map ev,hi.map ev with
    |none,none=>f 0 len
    |some (.v (.int _ lo)),none=>f lo len
    |none,some (.v (.int _ hi))=>f 0 hi
    |some (.v (.int _ lo)),some (.v (.int _ hi))=>f lo hi
    |_,_=>False
   |_=>False
  |_=>False
 | .sstr x lo hi=>match ev x with
  | .v (.string s) =>
   let f:Int->Int->Prop:=λlo hi=>(0<=lo∧lo<=hi∧hi<=s.size)∧K (.v (.string (s.extract lo.toNat hi.toNat)))
   match lo.map ev,hi.map ev with
   |none,none=>f 0 s.size
   |some (.v (.int _ lo)),none=>f lo s.size
   |none,some (.v (.int _ hi))=>f 0 hi
   |some (.v (.int _ lo)),some (.v (.int _ hi))=>f lo hi
   |_,_=>False
  |_=>False
 | .nilc x=>match ev x with
  |.ro c=>K (.ro c)
  | .ptr n e c=>match h n with
   |some _=>K (.ptr n e c)
   |none=>False
  |.fn f c=>K (.fn f c)
  |_=>False
 | .extract x i=>match ev x with
  |.tup c=>i<c.length∧K (c.getD i .junk)
  |_=>False
 |.build z parts=>layAll ev h z parts λcs=>K (.agg cs)
 |.mkfn f caps=>K (.fn f (caps.map ev))
 | .mm mx x y=>match ev x,ev y with
  |.v (.int k a),.v (.int _ b)=>K (.v (.int k (if mx then(if b>a then b else a) else(if b<a then b else a))))
  |_,_=>False
 | .b2s x=>match oQ 1 h (ev x) with
  | some l=>match rU l with
   |some ns=>K (.v (.string (aCp ns)))
   |none=>False
  |none=>False
 | .eqA neg ks x y=>match ev x,ev y with
  | .agg c,.agg c'=>match eqC ks c c' with
   |some b=>K (.v (.bool (if neg then !b else b)))
   |none=>False
  |_,_=>False
 | .idxB x y=>match ev x,ev y with
  |.v (.string s),.v (.int .u8 c)=>K (.v (.int .i64 (yS s c)))
  |_,_=>False
 |.box _|.alloc _|.bslice .. | .mk .. | .call .. | .store .. | .append .. | .appendC .. | .bsliceC .. | .clr ..=>False
theorem aJ7 {ev:Operand->AV}{h:Name->Option Blk}{K:AV->Prop}{g:Bool}{k:Nat}{a:Operand} (F:rd ev h K (.loadV g k a)):rd ev h K (.load g k a):=by
 simp only[rd] at F;split at F
 .rename_i n e c I;split at F
  .rename_i cs z H;simp only[rd,I,H];exact⟨F.1.1,F.2⟩
  .exact F.elim
 .exact F.elim
theorem aIN {ev:Operand->AV}{h:Name->Option Blk}{K:AV->Prop}{off:Nat}{x:Operand} (F:rd ev h K (.fieldV off x)):rd ev h K (.fieldAddr off x):=by
 simp only[rd] at F;split at F
 .rename_i n e c I;split at F
  .rename_i cs z H;simp only[rd,I,H];exact F
  .exact F.elim
 .exact F.elim
/-! ## resolving -/
def jM (P:Program) (t:TypeId):Option Nat:=(P.info? t).map (·.size)
def iK (P:Program) (t:TypeId):Option Bool:=
 match P.underlying t with
 |some (.struct _)|some (.array _ _)=>some true
 |some _=>some false
 |none=>none
def uG (P:Program) (t:TypeId):Option (Bool×Nat):=
 match iK P t,jM P t with
 |some true,some n=>some (true,n)
 |some false,some _=>some (false,1)
 |_,_=>none
theorem lY {P:Program}{t:TypeId}{b:Bool} (h:iK P t=some b) (w:World):(isAgg t).run P w=.ok b w:=by
 unfold iK at h;unfold isAgg underlying;cases hu:P.underlying t with
 |none=>simp[hu] at h
 |some d=>cases d<;>simp_all
theorem run_sizeOf {P:Program}{t:TypeId}{n:Nat} (h:jM P t=some n) (w:World):(sizeOf t).run P w=.ok n w:=by
 unfold jM at h;unfold sizeOf typeInfo;cases hi:P.info? t with
 |none=>simp[hi] at h
 |some i=>simp_all
theorem run_underlying {P:Program}{t:TypeId}{d:TypeDesc} (h:P.underlying t=some d) (w:World):(underlying t).run P w=.ok d w:=by
 unfold underlying;simp[h]
end
section
variable [Envs]
section inv
variable {S:Nat->Prop}{w:World}{ρ:Name->Option Nat}{κ:Name->Nat}{h:Name->Option Blk}{v:Value}
theorem bL {x:Value} (F:RV S w ρ κ h (.v x) v):v=x:=by
 cases F with|clo F=>cases F;rfl
theorem wJ {c:List AV} (F:RV S w ρ κ h (.ro c) v):RC S w (.ro c) v:=by
 grind [RV]
theorem zT {k:Nat}{l:List (List AV)} (F:RV S w ρ κ h (.sl k l) v):RC S w (.sl k l) v:=by
 grind [RV]
theorem iL {n:Name}{off len:Nat} (F:RV S w ρ κ h (.loc n off len) v):aDm ρ κ h n off len v:=by
 cases F with
 |clo F=>cases F
 |loc _ _ _ _ hv=>exact hv
theorem gJ {n:Name}{e c:Nat} (F:RV S w ρ κ h (.ptr n e c) v):aEi ρ h n e c v:=by
 cases F with
 |clo F=>cases F
 |ptr _ _ _ _ hv=>exact hv
theorem qJ {c:List AV} (F:RV S w ρ κ h (.agg c) v):∃vs,v=.agg vs∧c.length=vs.size∧∀j,j<c.length->RV S w ρ κ h (c.getD j .junk) (vs.getD j undef):=by
 cases F with
 |clo F=>cases F with|agg _ vs hl hr=>exact⟨vs,rfl,hl,λj H=>.clo (hr j H)⟩
 |agg _ vs hl hr=>exact⟨vs,rfl,hl,hr⟩
theorem aB9 {c:List AV} (F:RV S w ρ κ h (.tup c) v):∃vs,v=.tuple vs∧c.length=vs.size∧∀j,j<c.length->RV S w ρ κ h (c.getD j .junk) (vs.getD j undef):=by
 cases F with
 |clo F=>cases F with|tup _ vs hl hr=>exact⟨vs,rfl,hl,λj H=>.clo (hr j H)⟩
 |tup _ vs hl hr=>exact⟨vs,rfl,hl,hr⟩
theorem aCR {f:FuncId}{c:List AV} (F:RV S w ρ κ h (.fn f c) v):∃vs,v=.func (.func f) #[] vs∧c.length=vs.size∧∀j,j<c.length->RV S w ρ κ h (c.getD j .junk) (vs.getD j undef):=by
 cases F with
 |clo F=>cases F with|fn _ _ vs hl hr=>exact⟨vs,rfl,hl,λj H=>.clo (hr j H)⟩
 |fn _ _ vs hl hr=>exact⟨vs,rfl,hl,hr⟩
end inv
theorem cell_of_row {w:World}{x off:Nat}{cs:Array Value}{T:TypeId}{fr:Nat×Nat} (H:w.heap[x]? = some (.cells cs T fr)) (F:off<cs.size) :
  w.cell? ⟨x,off,none⟩=some (cs.getD off undef):=by
 simp[World.cell?,H,F]
theorem addr_add (x off j:Nat):(⟨x,off,none⟩:Addr).add j=⟨x,off+j,none⟩:=by
 grind [Addr.add]
theorem HOK.cells {S:Nat->Prop}{w:World}{ρ:Name->Option Nat}{κ:Name->Nat}{h:Name->Option Blk} (J:HOK S w ρ κ h) {n:Name}{b:Blk} (hb:h n=some b)
  {x:Nat} (H:ρ n=some x) {e j:Nat} (I:j<(b.row e).length) :
  ∃u,w.cell? ⟨x,e*b.k+j,none⟩=some u∧u.oneCell'=true∧RV S w ρ κ h ((b.row e).getD j .junk) u:=by
 have O:=J.blk n b hb;cases b with
 | var c z =>
  obtain⟨y,cs,T,fr,F,h2,_,_,_,_,Y,Z⟩:=O;obtain rfl:=Option.some.inj (F.symm.trans H);cases e with
  | zero =>
   grind [Blk.row,cell_of_row]
  |succ e=>simp[Blk.row] at I
 | arr k l z =>
  obtain⟨U,⟨F,h2⟩|⟨y,cs,T,fr,F,h2,_,_,_,_,Y,Z⟩⟩:=O
  .rw[F] at H;cases H
  .obtain rfl:=Option.some.inj (F.symm.trans H);simp only[Blk.row,Blk.k] at I⊢
   have L:e<l.length:=by
    grind
   have ha:j<k:=by rw[←U e L];exact I
   have:e*k+j<cs.size:=by
    have:(e+1)*k<=l.length*k:=Nat.mul_le_mul_right k L;rw[Nat.succ_mul] at this;omega
   all_goals grind [cell_of_row,RV]
theorem aAF {P:Program}{T:TypeId}{k:Nat} (h:uG P T=some (false,k)):k=1:=by
 grind [uG]
theorem aBB {P:Program}{T:TypeId}{g:Bool}{k:Nat} (F:uG P T=some (g,k)) {w:World}{x off:Nat} (f:Nat->Value)
  (I:∀j,j<k->w.cell? ⟨x,off+j,none⟩=some (f j)) :
  (loadVar T ⟨x,off,none⟩).run P w=.ok (if g then .agg ((List.range k).map f).toArray else f 0) w:=by
 unfold uG at F;split at F
 .rename_i n H h2;simp only[Option.some.injEq,Prod.mk.injEq] at F;obtain⟨rfl,rfl⟩:=F;simp[loadVar,lY H,run_sizeOf h2,run_loadCells w ⟨x,off,none⟩ n f (λj J=>by rw[addr_add];exact I j J)]
 .rename_i n H h2;simp only[Option.some.injEq,Prod.mk.injEq] at F;obtain⟨rfl,rfl⟩:=F;have:=I 0 (by omega);simp only[Nat.add_zero] at this;simp[loadVar,lY H,this]
 .cases F
theorem aHM {S:Nat->Prop}{w:World}{ρ:Name->Option Nat}{κ:Name->Nat}{h:Name->Option Blk}{g:Bool}{k:Nat}{c:List AV}{f:Nat->Value} (I:g=false->k=1)
  (F:c.length=k) (H:∀j,j<k->RV S w ρ κ h (c.getD j .junk) (f j)):RV S w ρ κ h (.mk g c) (if g then .agg ((List.range k).map f).toArray else f 0):=by
 cases g with
 | true =>
  simp only[AV.mk,if_true];refine .agg _ _ (by simp[F]) λj J=>?_
  have:((List.range k).map f).toArray.getD j undef=f j:=by
   have:j<k:=by omega
   simp[this]
  rw[this];exact H j (by omega)
 | false =>
  obtain rfl:=I rfl;have:=H 0 (by omega)
  match c,F with
  | [x],_=>simpa[AV.mk] using this
def Ans (P:Program) (S:Nat->Prop) (w:World) (ρ:Name->Option Nat) (κ:Name->Nat) (h:Name->Option Blk) (K:AV->Prop) (s:Sem Value):Prop:=
 ∃x v,K x∧s.run P w=.ok v w∧RV S w ρ κ h x v
variable {P:Program}{C:Ctx}{σ:FSt}{a:Act}{w:World}{S:Nat->Prop}{ρ:Name->Option Nat}{κ:Name->Nat}{K:AV->Prop}
theorem aHS (J:OK C σ a w S ρ κ) {T:TypeId}{g:Bool}{k:Nat} (O:uG P T=some (g,k)) {x:Operand} (H:rd (evO σ.s) σ.h K (.load g k x)) :
  Ans P S w ρ κ σ.h K (Instr.loadAt T (a.eval x)):=by
 have L:=J.ev x;generalize a.eval x=va at L⊢;simp only[rd] at H;split at H
 .rename_i c Y;rw[Y] at L;obtain⟨hk,U⟩:=H;cases wJ L with
  | ro _ b off xs hS hcell ho hr =>
   refine⟨_,_,U,by simp only[Instr.loadAt,Instr.sureAddr,Sem.run_bind,Sem.run_pure,Result.andThen_ok];exact aBB O xs (λj I=>hcell j (by omega)),?_⟩;refine aHM (λZ=>aAF (Z ▸ O)) (by simp;omega) λj I=>?_;have e:(c.take k).getD j .junk=c.getD j .junk:=by simp[List.getD,I]
   rw[e];exact .clo (hr j (by omega))
 .rename_i n e c Y;rw[Y] at L;split at H
  .rename_i b hb;obtain⟨hk,U⟩:=H;obtain⟨y,hy,ha⟩:=gJ L b hb;have F:=λj (I:j<(b.row e).length)=>J.hok.cells hb hy (e:=e) (j:=j) I
   let f:Nat->Value:=λj=>(w.cell? ⟨y,e*b.k+c+j,none⟩).getD undef
   have hf:∀j,j<k->w.cell? ⟨y,e*b.k+c+j,none⟩=some (f j):=λj I=>by
    obtain⟨u,hu,_⟩:=F (c+j) (by omega)
    all_goals grind
   refine⟨_,_,U,by subst ha;simp only[Instr.loadAt,Instr.sureAddr,Sem.run_bind,Sem.run_pure,Result.andThen_ok];exact aBB O f hf,?_⟩;refine aHM (λZ=>aAF (Z ▸ O)) (by simp;omega) λj I=>?_
   all_goals grind
  .exact H.elim
 .exact H.elim
theorem aHP {c:List AV}{v:Value}{off:Nat} (H:off<=c.length) (h:RC S w (.ro c) v):∃x o,v=.pointer (some ⟨x,o,none⟩)∧RC S w (.ro (c.drop off)) (.pointer (some ⟨x,o+off,none⟩)):=by
 cases h with
 | ro _ x o xs hS hc hone hr =>
  refine⟨x,o,rfl,.ro _ x (o+off) (λj=>xs (off+j)) hS (λj F=>?_) (λj F=>hone _ (by simp at F;omega)) λj F=>?_⟩
  all_goals grind
def y5 (P:Program) (s:TypeId) (i:Nat):Option Field:=
 match P.underlying s with
 |some (.struct fs)=>fs[i]?
 |_=>none
theorem aEC (O:OK C σ a w S ρ κ) {s:TypeId}{i:Nat}{f:Field}{n:Nat} (J:y5 P s i=some f) (hn:jM P f.type=some n) (U:n≠0) {x:Operand}
  (H:rd (evO σ.s) σ.h K (.fieldAddr f.offset x)):Ans P S w ρ κ σ.h K (Instr.fieldAt s (a.eval x) i):=by
 have I:=O.ev x
 have F:∀b o,(Instr.fieldAt s (.pointer (some ⟨b,o,none⟩)) i).run P w=.ok (.pointer (some ⟨b,o+f.offset,none⟩)) w:=by
  intro b o;unfold y5 at J;split at J
  .rename_i fs hu;simp[Instr.fieldAt,run_underlying hu,J,Instr.sureAddr,fieldPlace,run_sizeOf hn,U,addr_add]
  .cases J
 generalize a.eval x=va at I⊢;simp only[rd] at H;split at H
 .rename_i m e c L;rw[L] at I;split at H
  .rename_i b Y;obtain⟨y,hy,rfl⟩:=gJ I b Y;refine⟨_,_,H,F _ _,.ptr _ _ _ _ λb' Z=>?_⟩
   all_goals grind
  .exact H.elim
 .rename_i c L;rw[L] at I;obtain⟨y,o,rfl,hr⟩:=aHP H.1 (wJ I);exact⟨_,_,H.2,F _ _,.clo hr⟩
 .exact H.elim
theorem aJ9 (J:OK C σ a w S ρ κ) {s:TypeId}{i:Nat}{f:Field}{n:Nat}{g:Bool} (F:y5 P s i=some f) (hn:jM P f.type=some n) (O:iK P f.type=some g) (H:g=false->n=1)
  {x:Operand} (I:rd (evO σ.s) σ.h K (.field g f.offset n x)):Ans P S w ρ κ σ.h K (Instr.field s (a.eval x) i):=by
 have L:=J.ev x;generalize a.eval x=va at L⊢;simp only[rd] at I;split at I
 .rename_i c Z;rw[Z] at L;obtain⟨vs,rfl,hl,hr⟩:=qJ L;unfold y5 at F;split at F
  .rename_i fs U;obtain⟨hk,Y⟩:=I;refine⟨_,(if g then .agg ((List.range n).map λj=>vs.getD (f.offset+j) undef).toArray else vs.getD (f.offset+0) undef),Y,?_,?_⟩
   .cases g with
    | true =>
     simp only[Instr.field,Sem.run_bind,run_underlying U,Result.andThen_ok,F,asAgg,Sem.run_pure,part,lY O,if_true,run_sizeOf hn];congr 2;apply Array.ext (by simp;omega);intro j H h2;simp at H h2;simp[show f.offset+j<vs.size by omega]
    | false =>
     have:=H rfl;simp[Instr.field,run_underlying U,F,asAgg,part,lY O,show f.offset<vs.size by omega]
   .refine aHM H (by simp;omega) λj hj=>?_
    all_goals grind
  .cases F
 .exact I.elim
theorem aNb {k:Nat}{l:List (List AV)}{v:Value} (h:RC S w (.sl k l) v) {i:Nat} (hi:i<l.length) :
  ∃x off cap,v=.slice (some ⟨x,off,none⟩) l.length cap∧RC S w (.ro (l.getD i [])) (.pointer (some ⟨x,off+i*k,none⟩)):=by
 cases h with
 | sl _ _ base cap x off xs hb hc ho hr hk hcap =>
  have H:l≠[]:=by rintro rfl;simp at hi
  obtain⟨rfl,I⟩:=hb H;refine⟨x,off,cap,rfl,.ro _ x _ (λj=>xs (i*k+j)) I (λj F=>?_) (λj F=>ho i j hi (by rw[←hk i hi];exact F)) λj F=>hr i j hi (by rw[←hk i hi];exact F)⟩
  all_goals grind
theorem aJ8 (I:OK C σ a w S ρ κ) {t e:TypeId}{k:Nat} (hu:P.underlying t=some (.slice e)) (hk:jM P e=some k) {x i:Operand}
  (H:rd (evO σ.s) σ.h K (.idxSl k x i)):Ans P S w ρ κ σ.h K (Instr.indexAt t (a.eval x) (a.eval i)):=by
 have J:=I.ev x;have hi:=I.ev i;generalize a.eval x=va at J⊢;generalize a.eval i=vi at hi⊢;simp only[rd] at H;split at H
 .rename_i k' l kk n Y Z;rw[Y] at J;rw[Z] at hi;obtain rfl:=bL hi;obtain⟨⟨rfl,L,O⟩,U⟩:=H;obtain⟨y,off,cap,rfl,hr⟩:=aNb (zT J) (i:=n.toNat) (by omega);refine⟨_,_,U,?_,.clo hr⟩;simp[Instr.indexAt,asIntOf,run_underlying hu,run_sizeOf hk,L,O,addr_add]
 .rename_i m off len kk n Y Z;rw[Y] at J;rw[Z] at hi;obtain rfl:=bL hi;split at H
  .rename_i k' l z hb;obtain⟨⟨rfl,L,O⟩,U⟩:=H;obtain⟨hd,base,cap,rfl,_,_,F,_⟩:=iL J _ _ _ hb;obtain⟨y,hy,rfl⟩:=F (by omega);refine⟨_,.pointer (some ⟨y,off*k'+n.toNat*k',none⟩),U,?_,.ptr _ _ _ _ λb' ha=>?_⟩
   .simp[Instr.indexAt,asIntOf,run_underlying hu,run_sizeOf hk,L,O,addr_add]
   all_goals grind [Blk.k]
  .exact H.elim
 .exact H.elim
theorem aIL (H:OK C σ a w S ρ κ) {t e:TypeId}{n k:Nat} (hu:P.underlying t=some (.array n e)) (Z:jM P e=some k) {x i:Operand}
  (F:rd (evO σ.s) σ.h K (.idxArr n k x i)):Ans P S w ρ κ σ.h K (Instr.indexAt t (a.eval x) (a.eval i)):=by
 have I:=H.ev x;have hi:=H.ev i;generalize a.eval x=va at I⊢;generalize a.eval i=vi at hi⊢;simp only[rd] at F;split at F
 .rename_i c kk m U Y;rw[U] at I;rw[Y] at hi;obtain rfl:=bL hi;obtain⟨⟨J,L,h2⟩,O⟩:=F;obtain⟨y,o,rfl,hr⟩:=aHP h2 (wJ I);refine⟨_,_,O,?_,.clo hr⟩;simp[Instr.indexAt,asIntOf,run_underlying hu,run_sizeOf Z,J,L,addr_add,Instr.sureAddr]
 .rename_i nm e' c kk m U Y;rw[U] at I;rw[Y] at hi;obtain rfl:=bL hi;split at F
  .rename_i b hb;obtain⟨⟨J,L⟩,O⟩:=F;obtain⟨y,hy,rfl⟩:=gJ I b hb;refine⟨_,.pointer (some ⟨y,e'*b.k+c+m.toNat*k,none⟩),O,?_,.ptr _ _ _ _ λb' ha=>?_⟩
   .simp[Instr.indexAt,asIntOf,run_underlying hu,run_sizeOf Z,J,L,addr_add,Instr.sureAddr]
   all_goals grind
  .exact F.elim
 .exact F.elim
theorem aIM (H:OK C σ a w S ρ κ) {t e:TypeId}{n k:Nat}{g:Bool} (Z:P.underlying t=some (.array n e)) (Y:jM P e=some k) (U:iK P e=some g) (F:g=false->k=1) {x i:Operand}
  (J:rd (evO σ.s) σ.h K (.idxAgg g n k x i)):Ans P S w ρ κ σ.h K (Instr.index t (a.eval x) (a.eval i)):=by
 have L:=H.ev x;have hi:=H.ev i;generalize a.eval x=va at L⊢;generalize a.eval i=vi at hi⊢;simp only[rd] at J;split at J
 .rename_i c kk m hc hn;rw[hc] at L;rw[hn] at hi;obtain rfl:=bL hi;obtain⟨⟨O,I,h2⟩,hK⟩:=J;obtain⟨vs,rfl,hl,hr⟩:=qJ L;refine⟨_,(if g then .agg ((List.range k).map λj=>vs.getD (m.toNat*k+j) undef).toArray else vs.getD (m.toNat*k+0) undef),hK,?_,?_⟩
  .cases g with
   | true =>
    simp only[Instr.index,asIntOf,Sem.run_bind,Sem.run_pure,run_underlying Z,Result.andThen_ok,O,I,and_self,if_true,run_sizeOf Y,part,lY U];congr 2;apply Array.ext (by simp;omega);intro j I h2;simp at I h2;simp[show m.toNat*k+j<vs.size by omega]
   | false =>
    have:=F rfl;subst this;have:vs[m.toNat]? = some (vs.getD m.toNat undef):=by simp[show m.toNat<vs.size by omega]
    simp[Instr.index,asIntOf,run_underlying Z,O,I,run_sizeOf Y,part,lY U,show m.toNat<vs.size by omega]
  .refine aHM F (by simp;omega) λj hj=>?_
   all_goals grind
 .exact J.elim
theorem aIK (H:OK C σ a w S ρ κ) {t:TypeId} (Z:P.underlying t=some .string) {x i:Operand}
  (I:rd (evO σ.s) σ.h K (.idxStr x i)):Ans P S w ρ κ σ.h K (Instr.index t (a.eval x) (a.eval i)):=by
 have J:=H.ev x;have hi:=H.ev i;generalize a.eval x=va at J⊢;generalize a.eval i=vi at hi⊢;simp only[rd] at I;split at I
 .rename_i s kk m U Y;rw[U] at J;rw[Y] at hi;obtain rfl:=bL hi;obtain rfl:=bL J;obtain⟨⟨L,h1⟩,O⟩:=I;refine⟨_,_,O,?_,.clo (.v _)⟩;have F:m.toNat<s.size:=by omega
  have e:s[m.toNat]? = some (s.data.toList.getD m.toNat 0):=by
   have:m.toNat<s.data.size:=F;rw[getElem?_pos s m.toNat F];simp;rw[getElem?_pos s.data m.toNat this];rfl
  simp[Instr.index,asIntOf,run_underlying Z,L,e]
 .exact I.elim
end
section
variable [Envs]
variable {P:Program}{C:Ctx}{σ:FSt}{a:Act}{w:World}{S:Nat->Prop}{ρ:Name->Option Nat}{κ:Name->Nat}{K:AV->Prop}
theorem aM8 (J:OK C σ a w S ρ κ) {op:BinOp}{t:TypeId}{x y:Operand}
  (F:rd (evO σ.s) σ.h K (.bin op x y)):Ans P S w ρ κ σ.h K (do eqGuard op t x y (a.eval x) (a.eval y);binOp op t (a.eval x) (a.eval y)):=by
 have O:=J.ev x;have U:=J.ev y;generalize a.eval x=va at O⊢;generalize a.eval y=vb at U⊢;simp only[rd] at F;split at F
 .rename_i k n k' m Y Z;rw[Y] at O;rw[Z] at U;obtain rfl:=bL O;obtain rfl:=bL U;have I:(eqGuard op t x y (.int k n) (.int k' m)).run P w=.ok () w:=by unfold eqGuard;cases op<;>simp
  unfold aGm at F;cases op<;>simp only at F
  case shl=>exact⟨_,_,F.2,by simp[I,binOp,Op.shift,show ¬m<0 by omega],.clo (.v _)⟩
  case shr=>exact⟨_,_,F.2,by simp[I,binOp,Op.shift,show ¬m<0 by omega],.clo (.v _)⟩
  case quo=>obtain⟨⟨rfl,L⟩,H⟩:=F;exact⟨_,_,H,by simp[I,binOp,Op.intDiv,L],.clo (.v _)⟩
  case rem=>obtain⟨⟨rfl,L⟩,H⟩:=F;exact⟨_,_,H,by simp[I,binOp,Op.intDiv,L],.clo (.v _)⟩
  all_goals(obtain⟨rfl,H⟩:=F;exact⟨_,_,H,by simp[I,binOp,Op.intArith,Op.intCmp,Op.intBits,oG],.clo (.v _)⟩)
 .exact F.elim
theorem aLK (H:OK C σ a w S ρ κ) {op:BinOp}{t:TypeId}{x y:Operand}
  (F:rd (evO σ.s) σ.h K (.binS op x y)):Ans P S w ρ κ σ.h K (do eqGuard op t x y (a.eval x) (a.eval y);binOp op t (a.eval x) (a.eval y)):=by
 have J:=H.ev x;have L:=H.ev y;generalize a.eval x=va at J⊢;generalize a.eval y=vb at L⊢;simp only[rd] at F;split at F
 .rename_i s Y O U;rw[O] at J;rw[U] at L;obtain rfl:=bL J;obtain rfl:=bL L;have I:(eqGuard op t x y (.string s) (.string Y)).run P w=.ok () w:=by unfold eqGuard;cases op<;>simp
  unfold aBs at F;cases op<;>simp only at F
  case add =>
   have Z:IntKind.i64.max=9223372036854775807:=by decide
   exact⟨_,_,F.2,by simp[I,binOp,Op.stringOp];omega,.clo (.v _)⟩
  case eql=>exact⟨_,_,F,by simp[I,binOp,Op.stringOp],.clo (.v _)⟩
  case neq=>exact⟨_,_,F,by simp[I,binOp,Op.stringOp],.clo (.v _)⟩
 .exact F.elim
theorem aLL (H:OK C σ a w S ρ κ) {op:BinOp}{t:TypeId} (hu:P.underlying t=some .bool) {x y:Operand}
  (F:rd (evO σ.s) σ.h K (.binB op x y)):Ans P S w ρ κ σ.h K (do eqGuard op t x y (a.eval x) (a.eval y);binOp op t (a.eval x) (a.eval y)):=by
 have J:=H.ev x;have L:=H.ev y;generalize a.eval x=va at J⊢;generalize a.eval y=vb at L⊢;simp only[rd] at F;split at F
 .rename_i s I Y Z;rw[Y] at J;rw[Z] at L;obtain rfl:=bL J;obtain rfl:=bL L;have U:(eqGuard op t x y (.bool s) (.bool I)).run P w=.ok () w:=by unfold eqGuard;cases op<;>simp
  unfold y7 at F;cases op<;>simp only at F
  all_goals have O:(Op.equal t (.bool s) (.bool I)).run P w=.ok (s==I) w:=run_equalIn_bool' w 9999 t s I hu
  case eql=>exact⟨_,_,F,by simp[U,binOp,O],.clo (.v _)⟩
  case neq=>exact⟨_,_,F,by simp[U,binOp,O],.clo (.v _)⟩
 .exact F.elim
theorem rd_un (J:OK C σ a w S ρ κ) {op:UnOp}{x:Operand}
  (H:rd (evO σ.s) σ.h K (.un op x)):Ans P S w ρ κ σ.h K (Op.unary op (a.eval x)):=by
 have F:=J.ev x;generalize a.eval x=va at F⊢;simp only[rd] at H;split at H
 .rename_i b I;rw[I] at F;obtain rfl:=bL F;exact⟨_,_,H,by simp[Op.unary],.clo (.v _)⟩
 .rename_i k n I;rw[I] at F;obtain rfl:=bL F;exact⟨_,_,H,by simp[Op.unary,Op.intArith],.clo (.v _)⟩
 .rename_i k n I;rw[I] at F;obtain rfl:=bL F;exact⟨_,_,H,by simp[Op.unary,Op.intBits,oG],.clo (.v _)⟩
 .exact H.elim
theorem aLJ (H:OK C σ a w S ρ κ) {s d:TypeId}{k U:IntKind} (O:P.underlying s=some (.int U)) (L:P.underlying d=some (.int k)) {x:Operand}
  (F:rd (evO σ.s) σ.h K (.conv k x)):Ans P S w ρ κ σ.h K (convert s d (a.eval x)):=by
 have I:=H.ev x;generalize a.eval x=va at I⊢;simp only[rd] at F;split at F
 .rename_i Y n J;rw[J] at I;obtain rfl:=bL I;exact⟨_,_,F,by simp[convert,run_underlying O,run_underlying L,Conv.intToInt],.clo (.v _)⟩
 .exact F.elim
theorem aM7 (L:OK C σ a w S ρ κ) {t ty e:TypeId} (U:P.underlying t=some (.slice e)) {x:Operand}
  (F:rd (evO σ.s) σ.h K (.len x)):Ans P S w ρ κ σ.h K (Builtin.len_ #[t] ty #[a.eval x]):=by
 have I:=L.ev x;generalize a.eval x=va at I⊢
 have H:∀b n c,(Builtin.len_ #[t] ty #[.slice b n c]).run P w=.ok (.int .i64 n) w:=by
  intro b n c;simp[Builtin.len_,run_underlying U,goInt]
 simp only[rd] at F;split at F
 .rename_i k l J;rw[J] at I;cases zT I with
  |sl _ _ base cap x off xs O hcc ho hr hk hcap=>exact⟨_,_,F,H _ _ _,.clo (.v _)⟩
 .rename_i n off len J;rw[J] at I;split at F
  .rename_i k l z O;obtain⟨_,base,cap,rfl,_⟩:=iL I _ _ _ O;exact⟨_,_,F,H _ _ _,.clo (.v _)⟩
  .exact F.elim
 .rename_i b n c J;rw[J] at I;obtain rfl:=bL I;exact⟨_,_,F,H _ _ _,.clo (.v _)⟩
 .exact F.elim
theorem aLG (H:OK C σ a w S ρ κ) {t ty:TypeId} (L:P.underlying t=some .string) {x:Operand}
  (F:rd (evO σ.s) σ.h K (.lenS x)):Ans P S w ρ κ σ.h K (Builtin.len_ #[t] ty #[a.eval x]):=by
 have I:=H.ev x;generalize a.eval x=va at I⊢;simp only[rd] at F;split at F
 .rename_i s J;rw[J] at I;obtain rfl:=bL I;exact⟨_,_,F,by simp[Builtin.len_,run_underlying L,goInt],.clo (.v _)⟩
 .exact F.elim
theorem aLH (v:Value) {t ty e:TypeId}{n:Nat} (F:P.underlying t=some (.array n e))
  (H:rd (evO σ.s) σ.h K (.lenC n)):Ans P S w ρ κ σ.h K (Builtin.len_ #[t] ty #[v]):=by
 refine⟨_,.int .i64 n,H,?_,.clo (.v _)⟩;simp[Builtin.len_,run_underlying F,goInt]
theorem aJT {k:Nat}{l:List (List AV)}{v:Value} (h:RC S w (.sl k l) v) {lo hi:Nat} (U:lo<=hi) (h2:hi<=l.length) :
  ∃ base cap,v=.slice base l.length cap∧l.length<=cap∧
   RC S w (.sl k ((l.take hi).drop lo)) (.slice (if cap=lo then base else base.map (·.add (lo*k))) (hi-lo) (cap-lo)):=by
 cases h with
 | sl _ _ base cap x off xs hb hc ho hr hk hcap =>
  refine⟨base,cap,rfl,hcap.1,?_⟩;have J:((l.take hi).drop lo).length=hi-lo:=by simp;omega
  have H:∀i,i<hi-lo->((l.take hi).drop lo).getD i []=l.getD (lo+i) []:=by
   grind
  have e:∀i j,(lo+i)*k+j=lo*k+(i*k+j):=by intro i j;rw[Nat.add_mul];omega
  have O:=RC.sl (S:=S) (w:=w) k ((l.take hi).drop lo) (if cap=lo then base else base.map (·.add (lo*k))) (cap-lo) x (off+lo*k) (λm=>xs (lo*k+m))
   (λL=>?_) (λi j F I=>?_) (λi j F I=>?_) (λi j F I=>?_) (λi F=>?_) ?_
  .grind
  .have:0<hi-lo:=by
    grind
   obtain⟨rfl,Y⟩:=hb (by rintro rfl;simp at h2;omega)
   all_goals grind [addr_add]
  all_goals grind
def Bnd (ov:Option Value) (dflt:Nat) (n:Nat):Prop:=(ov=none∧n=dflt)∨∃k,ov=some (.int k n)
theorem aAu {t e:TypeId}{k:Nat} (U:P.underlying t=some (.slice e)) (O:jM P e=some k) {base:Option Addr}{len cap lo hi:Nat}{H F:Option Value}
  (J:Bnd H 0 lo) (I:Bnd F len hi) (L:lo<=hi) (h2:hi<=cap) :
  (Instr.sliceAt t (.slice base len cap) H F none).run P w=.ok (.slice (if cap=lo then base else base.map (·.add (lo*k))) (hi-lo) (cap-lo)) w:=by
 rcases J with⟨rfl,rfl⟩|⟨Z,rfl⟩<;>rcases I with⟨rfl,rfl⟩|⟨Y,rfl⟩ <;>
  simp[Instr.sliceAt,run_underlying U,Instr.slice,Instr.sliceBounds,Instr.sliceBound,asIntOf,run_sizeOf O,L,h2]
theorem aM6 (he:OK C σ a w S ρ κ) {t e:TypeId}{k:Nat} (hu:P.underlying t=some (.slice e)) (hk:jM P e=some k) {x:Operand}{H F:Option Operand}
  (I:rd (evO σ.s) σ.h K (.slc k x H F)):Ans P S w ρ κ σ.h K (Instr.sliceAt t (a.eval x) (H.map a.eval) (F.map a.eval) none):=by
 have hx:=he.ev x;generalize a.eval x=va at hx⊢
 have J:∀(o:Option Operand) (d:Nat),(o=none->Bnd (o.map a.eval) d d)∧(∀kk m,o.map (evO σ.s)=some (.v (.int kk m))->0<=m->Bnd (o.map a.eval) d m.toNat):=by
  intro o d;refine⟨λh=>by subst h;exact .inl ⟨rfl,rfl⟩,λkk m h h0=>?_⟩;cases o with
  |none=>simp at h
  | some o =>
   simp only[Option.map_some,Option.some.injEq] at h;have:=he.ev o;rw[h] at this;refine .inr ⟨kk,?_⟩;simp only[Option.map_some,bL this,Int.toNat_of_nonneg h0]
 simp only[rd] at I;split at I
 .rename_i k' l hc;rw[hc] at hx
  have fin:∀(lo hi:Int),(k'=k∧0<=lo∧lo<=hi∧hi<=l.length)∧K (.sl k ((l.take hi.toNat).drop lo.toNat))->Bnd (H.map a.eval) 0 lo.toNat->Bnd (F.map a.eval) l.length hi.toNat->
    Ans P S w ρ κ σ.h K (Instr.sliceAt t va (H.map a.eval) (F.map a.eval) none):=by
   rintro lo hi ⟨⟨rfl,h0,h1,h2⟩,hK⟩ b1 b2;obtain⟨base,cap,rfl,hd,hr⟩:=aJT (zT hx) (lo:=lo.toNat) (hi:=hi.toNat) (by omega) (by omega);exact⟨_,_,hK,aAu hu hk b1 b2 (by omega) (by omega),.clo hr⟩
  split at I
  .rename_i L O;have n1:H=none:=by cases H<;>simp_all
   have n2:F=none:=by cases F<;>simp_all
   exact fin _ _ I (by simpa using(J H 0).1 n1) (by simpa using(J F l.length).1 n2)
  .rename_i kk m L O;have n2:F=none:=by cases F<;>simp_all
   exact fin _ _ I ((J H 0).2 _ _ L I.1.2.1) (by simpa using(J F l.length).1 n2)
  .rename_i kk m L O;have n1:H=none:=by cases H<;>simp_all
   exact fin _ _ I (by simpa using(J H 0).1 n1) ((J F l.length).2 _ _ O (by have:=I.1.2.2.1;omega))
  all_goals grind
 .rename_i n off len hc;rw[hc] at hx;split at I
  .rename_i k' l z ha
   have fin:∀(lo hi:Int),(k'=k∧0<=lo∧lo<=hi∧hi<=len)∧K (.loc n (off+lo.toNat) (hi-lo).toNat)->Bnd (H.map a.eval) 0 lo.toNat->Bnd (F.map a.eval) len hi.toNat->
     Ans P S w ρ κ σ.h K (Instr.sliceAt t va (H.map a.eval) (F.map a.eval) none):=by
    rintro lo hi ⟨⟨rfl,h0,h1,h2⟩,hK⟩ b1 b2;obtain⟨hl,base,cap,rfl,hj,hd,Y,Z⟩:=iL hx _ _ _ ha;refine⟨_,_,hK,aAu hu hk b1 b2 (by omega) (by omega),.loc _ _ _ _ λk2 l2 z2 U=>?_⟩;rw[ha] at U;simp only[Option.some.injEq,Blk.arr.injEq] at U;obtain⟨rfl,rfl,rfl⟩:=U;refine⟨by omega,_,_,by congr 1;omega,by omega,by omega,λhh=>?_,λL O=>?_⟩
    .obtain⟨y,hy,rfl⟩:=Y (by omega);rw[if_neg (by omega)];exact⟨y,hy,by simp[addr_add,Nat.add_mul]⟩
    .have el:lo.toNat=0:=by omega
     have eo:off=0:=by omega
     rcases Z eo (by omega) with⟨h1,h2,h3⟩|⟨y,hy,hf,hg⟩
     .grind
     .refine .inr ⟨y,hy,?_,by rw[el];exact hg⟩;rw[el,hf];simp[Addr.add]
   split at I
   .rename_i L O;have n1:H=none:=by cases H<;>simp_all
    have n2:F=none:=by cases F<;>simp_all
    exact fin _ _ I (by simpa using(J H 0).1 n1) (by simpa using(J F len).1 n2)
   .rename_i kk m L O;have n2:F=none:=by cases F<;>simp_all
    exact fin _ _ I ((J H 0).2 _ _ L I.1.2.1) (by simpa using(J F len).1 n2)
   .rename_i kk m L O;have n1:H=none:=by cases H<;>simp_all
    exact fin _ _ I (by simpa using(J H 0).1 n1) ((J F len).2 _ _ O (by have:=I.1.2.2.1;omega))
   all_goals grind
  .exact I.elim
 .exact I.elim
theorem aFl {t:TypeId} (O:P.underlying t=some .string) {s:ByteArray}{lo hi:Nat}{H F:Option Value}
  (J:Bnd H 0 lo) (I:Bnd F s.size hi) (L:lo<=hi) (h2:hi<=s.size) :
  (Instr.sliceAt t (.string s) H F none).run P w=.ok (.string (s.extract lo hi)) w:=by
 rcases J with⟨rfl,rfl⟩|⟨Y,rfl⟩<;>rcases I with⟨rfl,rfl⟩|⟨U,rfl⟩ <;>
  simp[Instr.sliceAt,run_underlying O,Instr.slice,Instr.sliceBounds,Instr.sliceBound,asIntOf,L,h2]
theorem aNF (F:OK C σ a w S ρ κ) (o:Option Operand) (d:Nat):(o=none->Bnd (o.map a.eval) d d)∧(∀H m,o.map (evO σ.s)=some (.v (.int H m))->0<=m->Bnd (o.map a.eval) d m.toNat):=by
 refine⟨λh=>by subst h;exact .inl ⟨rfl,rfl⟩,λH m h I=>?_⟩;cases o with
 |none=>simp at h
 | some o =>
  simp only[Option.map_some,Option.some.injEq] at h;have:=F.ev o
  all_goals grind [bL,Bnd]
theorem aLD (L:OK C σ a w S ρ κ) {t:TypeId} (hu:P.underlying t=some .string) {x:Operand}{H F:Option Operand}
  (I:rd (evO σ.s) σ.h K (.sstr x H F)):Ans P S w ρ κ σ.h K (Instr.sliceAt t (a.eval x) (H.map a.eval) (F.map a.eval) none):=by
 have Y:=L.ev x;generalize a.eval x=va at Y⊢;have J:=aNF L;simp only[rd] at I;split at I
 .rename_i s hc;rw[hc] at Y;obtain rfl:=bL Y
  have fin:∀(lo hi:Int),(0<=lo∧lo<=hi∧hi<=s.size)∧K (.v (.string (s.extract lo.toNat hi.toNat)))->Bnd (H.map a.eval) 0 lo.toNat->Bnd (F.map a.eval) s.size hi.toNat->
    Ans P S w ρ κ σ.h K (Instr.sliceAt t (.string s) (H.map a.eval) (F.map a.eval) none):=by
   rintro lo hi ⟨⟨h0,h1,h2⟩,hK⟩ b1 b2;exact⟨_,_,hK,aFl hu b1 b2 (by omega) (by omega),.clo (.v _)⟩
  split at I
  .rename_i O U;have Z:H=none:=by cases H<;>simp_all
   have n2:F=none:=by cases F<;>simp_all
   exact fin _ _ I (by simpa using(J H 0).1 Z) (by simpa using(J F s.size).1 n2)
  .rename_i kk m O U;have n2:F=none:=by cases F<;>simp_all
   exact fin _ _ I ((J H 0).2 _ _ O I.1.1) (by simpa using(J F s.size).1 n2)
  .rename_i kk m O U;have Z:H=none:=by cases H<;>simp_all
   exact fin _ _ I (by simpa using(J H 0).1 Z) ((J F s.size).2 _ _ U (by have:=I.1;omega))
  all_goals grind
 .exact I.elim
theorem aLE (J:OK C σ a w S ρ κ) {o:Oper}{x:Operand} (U:o.op=.nilCheck x) (H:rd (evO σ.s) σ.h K (.nilc x)) :
  ∃L v,K L∧(execOp a.eval o).run P w=.ok (.value v) w∧RV S w ρ κ σ.h L v:=by
 have F:=J.ev x;simp only[execOp,U];generalize a.eval x=va at F⊢;simp only[rd] at H;split at H
 .rename_i c I;rw[I] at F;cases wJ F with
  |ro _ y off xs hS hcell hone hr=>exact⟨_,_,H,rfl,F⟩
 .rename_i n e c I;rw[I] at F;split at H
  .rename_i b O;obtain⟨y,Y,rfl⟩:=gJ F _ O;exact⟨_,_,H,rfl,F⟩
  .exact H.elim
 .rename_i f c I;rw[I] at F;obtain⟨vs,rfl,_⟩:=aCR F;exact⟨_,_,H,rfl,F⟩
 .exact H.elim
theorem aGP (H:OK C σ a w S ρ κ) {x:Operand}{i:Nat} (F:rd (evO σ.s) σ.h K (.extract x i)):Ans P S w ρ κ σ.h K (Instr.extract (a.eval x) i):=by
 have I:=H.ev x;generalize a.eval x=va at I⊢;simp only[rd] at F;split at F
 .rename_i c J;rw[J] at I;obtain⟨vs,rfl,O,L⟩:=aB9 I;refine⟨_,_,F.2,?_,L i F.1⟩;simp[Instr.extract,show i<vs.size by have:=F.1;omega]
 .exact F.elim
theorem aLF (H:OK C σ a w S ρ κ) {f:FuncId}{caps:List Operand} (L:rd (evO σ.s) σ.h K (.mkfn f caps)) :
  Ans P S w ρ κ σ.h K (Instr.makeFunc (.func f) #[] (caps.toArray.map a.eval)):=by
 refine⟨_,_,L,rfl,.fn _ _ _ (by simp) λj F=>?_⟩;simp only[List.length_map] at F;have I:(caps.map (evO σ.s)).getD j .junk=evO σ.s caps[j]:=by simp[List.getD,F]
 have J:(caps.toArray.map a.eval).getD j undef=a.eval caps[j]:=by simp[F]
 rw[I,J];exact H.ev _
theorem aMH (F:OK C σ a w S ρ κ) {mx:Bool}{t:Array TypeId}{T:TypeId}{x y:Operand} (H:rd (evO σ.s) σ.h K (.mm mx x y)) :
  Ans P S w ρ κ σ.h K (if mx then Builtin.max_ t T #[a.eval x,a.eval y] else Builtin.min_ t T #[a.eval x,a.eval y]):=by
 have I:=F.ev x;have J:=F.ev y;generalize a.eval x=va at I⊢;generalize a.eval y=vb at J⊢;simp only[rd] at H;split at H
 .rename_i k n U m L O;rw[L] at I;rw[O] at J;obtain rfl:=bL I;obtain rfl:=bL J;cases mx
  .exact⟨_,_,H,by simp[Builtin.min_,Builtin.min2],.clo (.v _)⟩
  .exact⟨_,_,H,by simp[Builtin.max_,Builtin.max2],.clo (.v _)⟩
 .exact H.elim
end
section
variable [Envs]
variable {P:Program}{C:Ctx}{σ:FSt}{a:Act}{w:World}{S:Nat->Prop}{ρ:Name->Option Nat}{κ:Name->Nat}{K:AV->Prop}{h:Name->Option Blk}
theorem yO {x:AV}{v:Value} (H:RV S w ρ κ h x v) (F:nN h x=true):v.oneCell'=true:=by
 cases x with
 |v y=>obtain rfl:=bL H;exact F
 |sl k l=>cases zT H;rfl
 |ro c=>cases wJ H;rfl
 |fn f c=>obtain⟨vs,rfl,_⟩:=aCR H;rfl
 | loc n off len =>
  simp only[nN] at F;split at F
  .rename_i I;obtain⟨_,base,cap,rfl,_⟩:=iL H _ _ _ I;rfl
  .cases F
 | ptr n e c =>
  simp only[nN] at F;obtain⟨b,I⟩:=Option.isSome_iff_exists.1 F;obtain⟨y,_,rfl⟩:=gJ H _ I;rfl
 |agg c=>simp[nN] at F
 |tup c=>simp[nN] at F
 |junk=>simp[nN] at F
def Cells (S:Nat->Prop) (w:World) (ρ:Name->Option Nat) (κ:Name->Nat) (h:Name->Option Blk) (c:List AV) (vs:Array Value):Prop:=
 c.length=vs.size∧∀j,j<c.length->RV S w ρ κ h (c.getD j .junk) (vs.getD j undef)
theorem aDa {x:AV}{v:Value} (L:RV S w ρ κ h x v) {c:List AV} (H:kG h x=some c) :
  Cells S w ρ κ h c v.cells∧(∀j,j<c.length->(v.cells.getD j undef).oneCell'=true):=by
 have F:∀x:AV,(nN h x=true)->RV S w ρ κ h x v->Cells S w ρ κ h [x] v.cells∧(∀j,j < [x].length->(v.cells.getD j undef).oneCell'=true):=by
  intro x O L;have Z:=yO L O;have e:v.cells=#[v]:=by cases v<;>simp_all [Value.cells,Value.oneCell']
  rw[e];refine⟨⟨rfl,λj I=>?_⟩,λj I=>?_⟩
  .simp only[List.length_singleton] at I;obtain rfl:j=0:=by omega
   exact L
  .simp only[List.length_singleton] at I;obtain rfl:j=0:=by omega
   exact Z
 cases x with
 | agg c' =>
  simp only[kG] at H;split at H
  .rename_i J;obtain rfl:=Option.some.inj H;obtain⟨vs,rfl,Y,U⟩:=qJ L;refine⟨⟨Y,U⟩,λj I=>yO (U j I) ?_⟩;have:=List.all_eq_true.1 J (c'.getD j .junk) (by simp[List.getD,I]);exact this
  .cases H
 | _ =>
  simp only[kG] at H;split at H
  .rename_i O;obtain rfl:=Option.some.inj H;exact F _ O L
  .cases H
theorem lN:∀(xs cs:List AV) (o:Nat),(lay cs o xs).length=cs.length
 | [],_,_=>rfl
 |x::r,cs,o=>by rw[lay,lN r];simp
theorem aAN:∀(xs cs:List AV) (o j:Nat),o+xs.length<=cs.length->(lay cs o xs).getD j .junk=if o<=j∧j<o+xs.length then xs.getD (j-o) .junk else cs.getD j .junk
 | [],cs,o,j,_=>by
  have:¬(o<=j∧j<o+([]:List AV).length):=by simp
  rw[lay,if_neg this]
 | x::r,cs,o,j,h=>by
  rw[lay,aAN r _ _ _ (by simp at h⊢;omega)];simp only[List.length_cons] at h⊢;by_cases F:o+1<=j∧j<o+1+r.length
  .rw[if_pos F,if_pos (by omega)];have:j-o=(j-(o+1))+1:=by omega
   rw[this];simp
  .rw[if_neg F];by_cases h2:j=o
   .subst h2;rw[if_pos (by omega)];have:j<cs.length:=by omega
    simp[List.getD,this]
   .rw[if_neg (by omega)];simp[List.getD,List.getElem?_set_ne (Ne.symm h2)]
theorem zY:∀(l:List Value) (i o:Nat) (cs:Array Value),o+i+l.length<=cs.size->
  ((l.zipIdx i).foldl (λcs (p:Value×Nat)=>cs.setIfInBounds (o+p.2) p.1) cs).size=cs.size∧
  ∀j,((l.zipIdx i).foldl (λcs (p:Value×Nat)=>cs.setIfInBounds (o+p.2) p.1) cs).getD j undef=if o+i<=j∧j<o+i+l.length then l.getD (j-(o+i)) undef else cs.getD j undef
 | [],i,o,cs,_=>⟨rfl,λj=>by
     have:¬(o+i<=j∧j<o+i+([]:List Value).length):=by simp
     rw[if_neg this];rfl⟩
 | x::r,i,o,cs,h=>by
  simp only[List.length_cons] at h;obtain⟨I,h2⟩:=zY r (i+1) o (cs.setIfInBounds (o+i) x) (by simp;omega);simp only[List.zipIdx_cons,List.foldl_cons];refine⟨by rw[I];simp,λj=>?_⟩;rw[h2 j];simp only[List.length_cons];by_cases F:o+(i+1)<=j∧j<o+(i+1)+r.length
  .rw[if_pos F,if_pos (by omega)];have:j-(o+i)=(j-(o+(i+1)))+1:=by omega
   rw[this];simp
  .rw[if_neg F];by_cases H:j=o+i
   .subst H;rw[if_pos (by omega)];simp[show o+i<cs.size by omega]
   .rw[if_neg (by omega)];simp[Array.getElem?_setIfInBounds_ne (Ne.symm H)]
theorem getD_toList (vs:Array Value) (j:Nat):vs.toList.getD j undef=vs.getD j undef:=by
 simp[List.getD]
theorem aCc (ha:OK C σ a w S ρ κ) (H:Nat->Option (Nat×Nat)):∀(F:List (Nat×Operand)) (rp:List (Nat×Nat×Operand)) (cs:List AV) (vs:Array Value) {K:List AV->Prop},
  F.map (λp=>(H p.1).map λq=>(q.1,q.2,p.2))=rp.map some->Cells S w ρ κ σ.h cs vs->layAll (evO σ.s) σ.h cs rp K->
  ∃ L J,K L∧Instr.fill H vs (F.map λp=>(p.1,a.eval p.2))=some J∧Cells S w ρ κ σ.h L J∧
   ((∀j,j<vs.size->(vs.getD j undef).oneCell'=true)->∀j,j<J.size->(J.getD j undef).oneCell'=true)
 | [],[],cs,vs,K,_,hc,U=>⟨cs,vs,U,rfl,hc,λh=>h⟩
 | [],_::_,_,_,_,h,_,_=>by simp at h
 |_::_,[],_,_,_,h,_,_=>by simp at h
 | (i,x)::F,(o,n,y)::rp,cs,vs,K,h,hc,U=>by
  simp only[List.map_cons,List.cons.injEq] at h;obtain⟨Z,h2⟩:=h;cases hp:H i with
  |none=>rw[hp] at Z;simp at Z
  | some q =>
   rw[hp] at Z;simp only[Option.map_some,Option.some.injEq,Prod.mk.injEq] at Z;obtain⟨rfl,rfl,rfl⟩:=Z;simp only[layAll] at U;split at U
   .rename_i c hk;obtain⟨⟨hn,ho⟩,U⟩:=U;obtain⟨⟨hg,hh⟩,hb⟩:=aDa (ha.ev x) hk;obtain⟨hl,hr⟩:=hc;have hf:=zY (a.eval x).cells.toList 0 q.1 vs (by simp;omega);simp only[Nat.add_zero,Array.length_toList,←hg] at hf
    have O:Cells S w ρ κ σ.h (lay cs q.1 c) (((a.eval x).cells.toList.zipIdx 0).foldl (λcs (p:Value×Nat)=>cs.setIfInBounds (q.1+p.2) p.1) vs):=by
     refine⟨by rw[lN,hf.1];exact hl,λj hj=>?_⟩;rw[lN] at hj;rw[aAN _ _ _ _ (by omega),hf.2 j];by_cases I:q.1<=j∧j<q.1+c.length
     .rw[if_pos I,if_pos I,getD_toList];exact hh _ (by omega)
     .rw[if_neg I,if_neg I];exact hr j hj
    obtain⟨L,J,hd,Y,he,hm⟩:=aCc ha H F rp _ _ h2 O U;refine⟨L,J,hd,?_,he,λhv=>hm λj hj=>?_⟩
    .have hz:(a.eval x).cells.zipIdx.foldl (λcs (p:Value×Nat)=>cs.setIfInBounds (q.1+p.2) p.1) vs=((a.eval x).cells.toList.zipIdx 0).foldl (λcs (p:Value×Nat)=>cs.setIfInBounds (q.1+p.2) p.1) vs:=by
      rw[←Array.foldl_toList,Array.toList_zipIdx]
     simp only[List.map_cons,Instr.fill,hp];rw[if_neg (by simp;omega)];rw[←Y,←hz]
    .rw[hf.1] at hj;rw[hf.2 j];by_cases I:q.1<=j∧j<q.1+c.length
     .rw[if_pos I,getD_toList];exact hb _ (by omega)
     .rw[if_neg I];exact hv j hj
   .exact U.elim
end
section
variable [Envs]
mutual
def fO:AV->Bool
 |.v _=>true
 |.sl _ _=>true
 |.ro _=>true
 |.fn _ c=>qA c
 |.agg c=>qA c
 |.tup c=>qA c
 |_=>false
def qA:List AV->Bool
 | []=>true
 |x::r=>fO x&&qA r
end
theorem l6:∀{c:List AV}{j:Nat},qA c=true->j<c.length->fO (c.getD j .junk)=true
 | [],_,_,hj=>by simp at hj
 |x::r,0,h,_=>by simp[qA] at h;simpa using h.1
 |x::r,j+1,h,hj=>by simp[qA] at h;simpa using l6 (c:=r) (j:=j) h.2 (by simpa using hj)
variable {P:Program}{C:Ctx}{σ:FSt}{a:Act}{w:World}{S:Nat->Prop}{ρ:Name->Option Nat}{κ:Name->Nat}{h:Name->Option Blk}
theorem RV.closed {x:AV}{v:Value} (I:RV S w ρ κ h x v) (F:fO x=true):RC S w x v:=by
 induction I with
 |junk v=>simp[fO] at F
 |clo I=>exact I
 |loc n off len v hv=>simp[fO] at F
 |ptr n e c v hv=>simp[fO] at F
 |fn f c vs hl hr ih=>simp only[fO] at F;exact .fn f c vs hl λj H=>ih j H (l6 F H)
 |agg c vs hl hr ih=>simp only[fO] at F;exact .agg c vs hl λj H=>ih j H (l6 F H)
 |tup c vs hl hr ih=>simp only[fO] at F;exact .tup c vs hl λj H=>ih j H (l6 F H)
def rowsOf (k:Nat):Nat->List AV->List (List AV)
 |0,_=>[]
 |m+1,cs=>cs.take k::rowsOf k m (cs.drop k)
def al (ev:Operand->AV) (h:Name->Option Blk) (n:Name) (K:AV->Blk->Prop):AOp->Prop
 | .box x=>match kG h (ev x) with
  |some c=>K (.ptr n 0 0) (.var c false)
  |none=>False
 |.alloc z=>z.all (λx=>nN h x&&fO x)=true∧K (.ptr n 0 0) (.var z false)
 | .bslice k m z parts=>(z.length=k∧m*k<=2 ^ 24∧m<=2 ^ 24∧z.all (nN h)=true)∧layAll ev h (List.flatten (List.replicate m z)) (parts.map λ(i,x)=>(i*k,k,x)) λcs =>
   qA cs=true∧K (.loc n 0 m) (.arr k (rowsOf k m cs) false)
 | .mk k bytes z x=>match ev x with
  |.v (.int .i64 i)=>(0<=i∧i*bytes<=2 ^ 47∧i<2 ^ 63∧z.length=k∧z.all (λx=>nN h x&&fO x)=true)∧K (.loc n 0 i.toNat) (.arr k (List.replicate i.toNat z) false)
  |_=>False
 |_=>False
theorem yV (w:World) (o:Obj):({w with heap:=w.heap.push o}:World).heap[w.heap.size]? = some o:=by simp
theorem OK.addVar (F:OK C σ a w S ρ κ) {n:Name} (Z:gP n σ) {c:List AV}{cs:Array Value}{T:TypeId} (L:Cells S w ρ κ σ.h c cs) (Y:∀j,j<c.length->(cs.getD j undef).oneCell'=true) (hn:oD n c=false) :
  ∃ ρ' κ',OK C ⟨σ.s,hput σ.h n (some (.var c false))⟩ a {w with heap:=w.heap.push (.cells cs T)} S ρ' κ'∧
   RV S {w with heap:=w.heap.push (.cells cs T)} ρ' κ' (hput σ.h n (some (.var c false))) (.ptr n 0 0) (.pointer (some ⟨w.heap.size,0,none⟩)):=by
 have H:=Ext.push w (.cells cs T);refine⟨_,_,F.add H Z (b:=.var c false) (ox:=some w.heap.size) (kn:=cs.size) (λx hx=>by rw[←Option.some.inj hx];exact Nat.le_refl _) ?_,?_⟩
 .intro ρ' κ' h' O U hm;refine⟨w.heap.size,cs,T,(0,0),O,yV _ _,λj _ I=>by omega,λ_ hs=>?_,by simp,U.symm,by rw[L.1];exact Nat.le_refl _,λj I=>⟨Y j I,(L.2 j I).mono (λ_ h=>h) (λb J=>H.2.1 b (F.hok.dom b J)) λm hh=>hm m ?_⟩⟩
  .exact absurd (F.hok.dom _ hs) (Nat.lt_irrefl _)
  .grind [qZ]
 .refine .ptr _ _ _ _ λb J=>?_
  all_goals grind
theorem OK.addArr (F:OK C σ a w S ρ κ) {w':World} (H:Ext w w') {n:Name} (hf:gP n σ) {k:Nat}{l:List (List AV)}{cs:Array Value}{T:TypeId}{fr:Nat×Nat}{x:Nat} (L:w.heap.size<=x) (hx:w'.heap[x]? = some (.cells cs T fr)) (J:aJo fr cs.size)
  (hk:∀i,i<l.length->(l.getD i []).length=k) (I:l.length*k<=cs.size)
  (Z:∀i j,i<l.length->j<k->(cs.getD (i*k+j) undef).oneCell'=true∧RC S w ((l.getD i []).getD j .junk) (cs.getD (i*k+j) undef)) {cap:Nat} (U:l.length<=cap∧cap<2 ^ 63∧cap*k<=cs.size) :
  ∃ ρ' κ',OK C ⟨σ.s,hput σ.h n (some (.arr k l false))⟩ a w' S ρ' κ'∧
   RV S w' ρ' κ' (hput σ.h n (some (.arr k l false))) (.loc n 0 l.length) (.slice (some ⟨x,0,none⟩) l.length cap):=by
 refine⟨_,_,F.add H hf (b:=.arr k l false) (ox:=some x) (kn:=cs.size) (λy hy=>by rw[←Option.some.inj hy];exact L) ?_,?_⟩
 .intro ρ' κ' h' e1 e2 hm;refine⟨hk,.inr ⟨x,cs,T,fr,e1,hx,J,λ_ hs=>?_,by simp,e2.symm,I,λi j hi Y=>⟨(Z i j hi Y).1,(Z i j hi Y).2.mono (λ_ h=>h) λb O=>H.2.1 b (F.hok.dom b O)⟩⟩⟩;have:=F.hok.dom _ hs;omega
 .refine .loc _ _ _ _ λk' l' z O=>?_
  all_goals grind [hput]
def Made (P:Program) (C:Ctx) (σ:FSt) (a:Act) (w:World) (S:Nat->Prop) (n:Name) (K:AV->Blk->Prop) (s:Sem Value):Prop:=
 ∃x b v w',K x b∧s.run P w=.ok v w'∧(gP n σ->b.has n=false->∃ρ' κ',OK C ⟨σ.s,hput σ.h n (some b)⟩ a w' S ρ' κ'∧RV S w' ρ' κ' (hput σ.h n (some b)) x v)
variable {K:AV->Blk->Prop}{n:Name}
theorem aNK (F:OK C σ a w S ρ κ) {T:TypeId}{x:Operand} (H:al (evO σ.s) σ.h n K (.box x)):Made P C σ a w S n K (Instr.box T (a.eval x)):=by
 have J:=F.ev x;generalize a.eval x=va at J⊢;simp only[al] at H;split at H
 .rename_i c O;obtain⟨I,L⟩:=aDa J O;refine⟨_,_,.pointer (some ⟨w.heap.size,0,none⟩),{w with heap:=w.heap.push (.cells va.cells T)},H,?_,λU Y=>?_⟩
  .simp[Instr.box,newVar,newRow]
  .exact F.addVar U I L (by simpa[Blk.has] using Y)
 .exact H.elim
def zOf (P:Program) (t:TypeId):Option (Array Value):=match P.info? t with|some i=>i.zero.map (·.cells)|none=>none
theorem aAt {t:TypeId}{z:Array Value} (h:zOf P t=some z) (w:World):∃v,(zeroValue t).run P w=.ok v w∧v.cells=z:=by
 unfold zOf at h;cases hi:P.info? t with
 |none=>simp[hi] at h
 | some i =>
  simp only[hi] at h;cases hz:i.zero with
  |none=>simp[hz] at h
  |some v=>exact⟨v,by simp[zeroValue,typeInfo,hi,hz],by simpa[hz] using h⟩
theorem tZ (cs:Array Value):Cells S w ρ κ h (cs.toList.map λx=>.v x) cs:=by
 refine⟨by simp,λj F=>?_⟩;simp only[List.length_map,Array.length_toList] at F;simp[List.getD,F];exact .clo (.v _)
theorem aAU {p:AV->Bool}{l:List AV} (h:l.all p=true) {j:Nat} (F:j<l.length):p (l.getD j .junk)=true:=
 List.all_eq_true.1 h _ (by simp[List.getD,F])
theorem aLf (I:OK C σ a w S ρ κ) {T:TypeId}{z:Array Value} (Z:zOf P T=some z) (L:al (evO σ.s) σ.h n K (.alloc (z.toList.map λx=>.v x))):Made P C σ a w S n K (Instr.alloc T true (.tuple #[])):=by
 obtain⟨v,H,rfl⟩:=aAt Z w;simp only[al] at L;obtain⟨F,O⟩:=L;refine⟨_,_,.pointer (some ⟨w.heap.size,0,none⟩),{w with heap:=w.heap.push (.cells v.cells T)},O,?_,λU Y=>?_⟩
 .simp[Instr.alloc,newVar,newRow,H]
 .refine I.addVar U (tZ _) (λj J=>?_) (by simpa[Blk.has] using Y);have:=aAU F J;have h2:=(tZ (S:=S) (w:=w) (ρ:=ρ) (κ:=κ) (h:=σ.h) v.cells).2 j J
  all_goals grind [yO]
theorem aD2 {z:List AV}{k:Nat} (F:z.length=k):∀(m i:Nat),i<m*k->(List.flatten (List.replicate m z)).getD i .junk=z.getD (i%k) .junk
 |0,i,h=>by omega
 | m+1,i,h=>by
  rw[List.replicate_succ,List.flatten_cons];by_cases hi:i<k
  .grind [Nat.mod_eq_of_lt]
  .have H:0<k:=by
    grind
   have:i%k=(i-k)%k:=by rw[Nat.mod_eq_sub_mod (by omega)]
   rw[this,←aD2 F m (i-k) (by rw[Nat.succ_mul] at h;omega)];simp[List.getD,List.getElem?_append_right (show z.length<=i by omega),F]
theorem aBF {z:List AV}{k:Nat} (F:z.length=k) (m:Nat):(List.flatten (List.replicate m z)).length=m*k:=by
 simp[F]
theorem jA (k:Nat):∀(m:Nat) (cs:List AV),(rowsOf k m cs).length=m
 |0,_=>rfl
 |m+1,cs=>by simp[rowsOf,jA k m]
theorem xJ (k:Nat):∀(m:Nat) (cs:List AV),cs.length=m*k->∀i,i<m->(((rowsOf k m cs).getD i []).length=k∧∀j,j<k->((rowsOf k m cs).getD i []).getD j .junk=cs.getD (i*k+j) .junk)
 |0,_,_,i,h=>by omega
 | m+1,cs,hl,0,_=>by
  grind [rowsOf]
 | m+1,cs,hl,i+1,h=>by
  rw[Nat.succ_mul] at hl;obtain⟨F,h2⟩:=xJ k m (cs.drop k) (by simp;omega) i (by omega)
  all_goals grind [rowsOf]
theorem tN (z:Array Value) (m k:Nat) (H:z.size=k) (j:Nat) (I:j<m*k):((Array.range (m*k)).map (z[· % z.size]!)).getD j undef=z.getD (j%k) undef:=by
 have J:0<k:=by
  grind
 have F:j%k<z.size:=by rw[H];exact Nat.mod_lt _ J
 simp[I,H,getElem!_pos z (j%k) F,getElem?_pos z (j%k) F]
theorem aJn (he:OK C σ a w S ρ κ) {t e:TypeId}{k m:Nat}{z:Array Value} (hu:P.underlying t=some (.slice e)) (hk:jM P e=some k) (hz:zOf P e=some z) {F:List (Nat×Operand)}
  (hv:al (evO σ.s) σ.h n K (.bslice k m (z.toList.map λx=>.v x) F)):Made P C σ a w S n K (Instr.buildSlice t m (F.map λp=>(p.1,a.eval p.2)).toArray):=by
 obtain⟨Y,hh,rfl⟩:=aAt hz w;simp only[al] at hv;obtain⟨⟨J,ht,hm,hs⟩,hv⟩:=hv;have hl:Y.cells.size=k:=by simpa using J
 have hp:Cells S w ρ κ σ.h (List.flatten (List.replicate m (Y.cells.toList.map λx=>.v x))) ((Array.range (m*k)).map (Y.cells[· % Y.cells.size]!)):=by
  refine⟨by rw[aBF J];simp,λj O=>?_⟩;rw[aBF J] at O;rw[aD2 J m j O,tN _ _ _ hl _ O]
  have U:0<k:=by
   grind
  exact(tZ Y.cells).2 _ (by rw[J];exact Nat.mod_lt _ U)
 obtain⟨cs,vs,⟨hd,hK⟩,ha,L,hg⟩:=aCc he (λi=>some (i*k,k)) F _ _ _ (by simp) hp hv
 have I:cs.length=m*k:=by
  have hq:∀(F:List (Nat×Value)) (c c':Array Value),Instr.fill (λi=>some (i*k,k)) c F=some c'->c'.size=c.size:=by
   intro F
   induction F with
   |nil=>intro c c' h;simp[Instr.fill] at h;rw[h]
   | cons p r ih =>
    intro c c' h;simp only[Instr.fill] at h;split at h
    .cases h
    .rename_i Z;have:=ih _ _ h;rw[this]
     have hr:p.2.cells.zipIdx.foldl (λcs (q:Value×Nat)=>cs.setIfInBounds (p.1*k+q.2) q.1) c=((p.2.cells.toList.zipIdx 0).foldl (λcs (q:Value×Nat)=>cs.setIfInBounds (p.1*k+q.2) q.1) c):=by
      rw[←Array.foldl_toList,Array.toList_zipIdx]
     have:=(zY p.2.cells.toList 0 (p.1*k) c (by simp at Z⊢;omega)).1;rw[←hr] at this;exact this
  have:=hq _ _ _ ha;rw[L.1,this];simp
 have hc:=hg (λj O=>by
   simp only[Array.size_map,Array.size_range] at O;rw[tN _ _ _ hl _ O]
   have U:0<k:=by
     grind
   have h2:=(tZ (S:=S) (w:=w) (ρ:=ρ) (κ:=κ) (h:=σ.h) Y.cells).2 (j%k) (by rw[J];exact Nat.mod_lt _ U);exact yO h2 (aAU hs (by rw[J];exact Nat.mod_lt _ U)))
 refine⟨_,_,.slice (some ⟨w.heap.size,0,none⟩) m m,{w with heap:=w.heap.push (.cells vs e)},hK,?_,λhf _=>?_⟩
 .have H:Instr.fill (λi=>some (i*k,k)) ((Array.range (m*k)).map (λi=>(if m*k=0 then #[] else Y.cells)[i%(if m*k=0 then(#[]:Array Value) else Y.cells).size]!)) (F.map λp=>(p.1,a.eval p.2))=some vs:=by
   grind
  have hn:¬(2 ^ 24<m*k):=by omega
  by_cases h0:m*k=0
  .simp only[h0,if_true] at H;simp[Instr.buildSlice,run_underlying hu,run_sizeOf hk,h0,newRow];simp at H;rw[H];simp
  .simp only[h0,if_false] at H;have:¬16777216<m*k:=by omega
   simp[Instr.buildSlice,run_underlying hu,run_sizeOf hk,newRow,hh,this];rw[if_neg h0,H];simp
 .have ho:=he.addArr (w':={w with heap:=w.heap.push (.cells vs e)}) (Ext.push w _) hf (k:=k) (l:=rowsOf k m cs) (cs:=vs) (T:=e) (fr:=(0,0)) (x:=w.heap.size) (cap:=m) (Nat.le_refl _) (yV _ _) (λj _ O=>by omega)
   (λi hi=>(xJ k m cs I i (by rwa [jA] at hi)).1) (by rw[jA,←L.1,I];exact Nat.le_refl _) (λi j hi O=>?_) ⟨by rw[jA];exact Nat.le_refl _,by omega,by rw[←L.1,I];exact Nat.le_refl _⟩
  .rw[jA] at ho;exact ho
  .rw[jA] at hi
   have hb:i*k+j<m*k:=by
    have:(i+1)*k<=m*k:=Nat.mul_le_mul_right k hi;rw[Nat.succ_mul] at this;omega
   refine⟨hc _ (by rw[←L.1,I];exact hb),?_⟩;rw[(xJ k m cs I i hi).2 j O];exact(L.2 _ (by rw[I];exact hb)).closed (l6 hd (by rw[I];exact hb))
theorem al_mk (U:OK C σ a w S ρ κ) {t e:TypeId}{i:TypeInfo}{H:Value} (hu:P.underlying t=some (.slice e)) (hi:P.info? e=some i) (hz:i.zero=some H) {x:Operand}
  (hv:al (evO σ.s) σ.h n K (.mk i.size i.bytes (H.cells.toList.map λx=>.v x) x)):Made P C σ a w S n K (Instr.makeSlice t (a.eval x) (a.eval x)):=by
 have hx:=U.ev x;generalize a.eval x=va at hx⊢;simp only[al] at hv;split at hv
 .rename_i m hc;rw[hc] at hx;obtain rfl:=bL hx;obtain⟨⟨h0,h1,h2,h3,L⟩,hK⟩:=hv;have hd:H.cells.size=i.size:=by simpa using h3
  have Y:=run_make (P:=P) w t e i H hu hi hz .i64 .i64 m m h0 (by omega) (by rw[Int.mul_comm];omega) (by omega);refine⟨_,_,_,_,hK,Y,λhf _=>?_⟩;have hb:∀j,j<m.toNat*i.size->(madeCells H.cells (m.toNat*i.size)).getD j undef=H.cells.getD (j%i.size) undef:=λj I=>tN _ _ _ hd _ I;have F:(List.replicate m.toNat (H.cells.toList.map λx=>AV.v x)).length=m.toNat:=by simp
  have J:∀j,j<m.toNat->(List.replicate m.toNat (H.cells.toList.map λx=>AV.v x)).getD j []=(H.cells.toList.map λx=>AV.v x):=by
   intro j I;simp[List.getD,I]
  have Z:=U.addArr (w':=w.alloc (.cells (madeCells H.cells (m.toNat*i.size)) e)) (Ext.push w _) hf (k:=i.size) (l:=List.replicate m.toNat (H.cells.toList.map λx=>.v x)) (cs:=madeCells H.cells (m.toNat*i.size)) (T:=e) (fr:=(0,0)) (x:=w.heap.size) (cap:=m.toNat) (Nat.le_refl _) (yV _ _) (λj _ I=>by omega)
   (λj I=>by rw[F] at I;rw[J j I];exact h3) (by rw[F,size_madeCells];exact Nat.le_refl _) (λp j hp I=>?_) ⟨by rw[F];exact Nat.le_refl _,by omega,by rw[size_madeCells];exact Nat.le_refl _⟩
  .rw[F] at Z;exact Z
  .rw[F] at hp
   have ha:p*i.size+j<m.toNat*i.size:=by
    have:(p+1)*i.size<=m.toNat*i.size:=Nat.mul_le_mul_right _ hp;rw[Nat.succ_mul] at this;omega
   rw[hb _ ha,J p hp];have e1:(p*i.size+j)%i.size=j:=by rw[Nat.mul_comm,Nat.mul_add_mod,Nat.mod_eq_of_lt I]
   rw[e1];have O:j<(H.cells.toList.map λx=>AV.v x).length:=by rw[h3];exact I
   have h4:=(tZ (S:=S) (w:=w) (ρ:=ρ) (κ:=κ) (h:=σ.h) H.cells).2 j O;have h5:=aAU L O;simp only[Bool.and_eq_true] at h5;exact⟨yO h4 h5.1,h4.closed h5.2⟩
 .exact hv.elim
end
section
variable [Envs]
variable {P:Program}{C:Ctx}{σ:FSt}{a:Act}{w:World}{S:Nat->Prop}{ρ:Name->Option Nat}{κ:Name->Nat}{h:Name->Option Blk}
def fP (w:World) (x:Nat) (o:Obj):World:={w with heap:=w.heap.setIfInBounds x o}
theorem tJ (w:World) (x:Nat) (o:Obj):(fP w x o).heap.size=w.heap.size:=by simp[fP]
theorem lU (w:World) {x y:Nat} (o:Obj) (F:y≠x):(fP w x o).heap[y]? = w.heap[y]?:=by
 simp[fP,Array.getElem?_setIfInBounds_ne (Ne.symm F)]
theorem lt_of_heap {w:World}{x:Nat}{o:Obj} (h:w.heap[x]? = some o):x<w.heap.size:=by
 grind
theorem uO {w:World}{x:Nat}{H:Obj} (o:Obj) (F:w.heap[x]? = some H):(fP w x o).heap[x]? = some o:=by
 simp[fP,lt_of_heap F]
def wX:Array Value->Nat->List Value->Array Value
 |cs,_,[]=>cs
 |cs,o,v::r=>wX (cs.setIfInBounds o v) (o+1) r
theorem gY:∀(vs:List Value) (cs:Array Value) (o:Nat),(wX cs o vs).size=cs.size
 | [],_,_=>rfl
 |v::r,cs,o=>by rw[wX,gY r];simp
theorem vR:∀(vs:List Value) (cs:Array Value) (o j:Nat),o+vs.length<=cs.size->(wX cs o vs).getD j undef=if o<=j∧j<o+vs.length then vs.getD (j-o) undef else cs.getD j undef
 | [],cs,o,j,_=>by
  grind [wX]
 | x::r,cs,o,j,h=>by
  simp only[List.length_cons] at h;rw[wX,vR r _ _ _ (by simp;omega)];simp only[List.length_cons];by_cases F:o+1<=j∧j<o+1+r.length
  .grind
  .rw[if_neg F];by_cases h2:j=o
   .subst h2;rw[if_pos (by omega)];simp[show j<cs.size by omega]
   .rw[if_neg (by omega)];simp[Array.getElem?_setIfInBounds_ne (Ne.symm h2)]
theorem aFj {x o:Nat}{cs:Array Value}{T:TypeId}{fr:Nat×Nat} (F:w.heap[x]? = some (.cells cs T fr)) (v:Value) :
  w.setCell ⟨x,o,none⟩ v=fP w x (.cells (cs.setIfInBounds o v) T fr):=by
 unfold World.setCell fP;congr 1
 all_goals grind
theorem aDs (w:World) (x:Nat) (o F:Obj):fP (fP w x o) x F=fP w x F:=by
 unfold fP;simp
theorem mK {x o:Nat}{T:TypeId}{fr:Nat×Nat}:∀(vs:List Value) (i:Nat) (cs:Array Value) (w:World),w.heap[x]? = some (.cells cs T fr)->aJo fr cs.size->
  o+i+vs.length<=cs.size->(∀v∈vs,v.oneCell'=true)->(storeCells ⟨x,o,none⟩ vs i).run P w=.ok () (fP w x (.cells (wX cs (o+i) vs) T fr))
 | [],i,cs,w,hx,_,_,_=>by
  have:fP w x (.cells cs T fr)=w:=by
   unfold fP;have L:=lt_of_heap hx;have I:w.heap[x]=.cells cs T fr:=by simpa[L] using hx
   congr 1
   all_goals grind
  simp[storeCells,wX,this]
 | v::r,i,cs,w,hx,ht,hl,I=>by
  simp only[List.length_cons] at hl;have F:w.cell? ⟨x,o+i,none⟩=some (cs.getD (o+i) undef):=cell_of_row hx (by omega)
  have J:w.frozen? ⟨x,o+i,none⟩=false:=by
   grind [World.frozen?,aJo]
  have H:=run_store P w ⟨x,o+i,none⟩ v .plain (I v (by simp));rw[F] at H;simp only[J,Bool.false_eq_true,if_false] at H;rw[aFj hx] at H;simp only[storeCells,addr_add,Sem.run_bind,H,Result.andThen_ok];have O:=uO (.cells (cs.setIfInBounds (o+i) v) T fr) hx;rw[mK r (i+1) (cs.setIfInBounds (o+i) v) _ O (by simpa using ht) (by simp;omega) (λu U=>I u (by simp[U])),aDs];rfl
theorem OK.write (F:OK C σ a w S ρ κ) {n:Name}{b L:Blk}{x:Nat}{w':World} (hb:σ.h n=some b) (hx:ρ n=some x) (hS:¬S x) (U:w'.heap.size=w.heap.size)
  (hw:∀y,y≠x->w'.heap[y]? = w.heap[y]?) (ho:w'.os=w.os∧w'.output=w.output) (ha:b.same L)
  (hd:∀h',(∀m,dY ρ ρ κ κ σ.h h' m)->zM S w' ρ κ h' n L):OK C ⟨σ.s,hput σ.h n (some L)⟩ a w' S ρ κ:=by
 have hn:∀m,dY ρ ρ κ κ σ.h (hput σ.h n (some L)) m:=by
  intro m c I;by_cases O:m=n
  .grind [hput]
  .simp only[hput,O,if_false] at I;exact⟨rfl,rfl,c,I,c.same_refl⟩
 have H:∀y,S y->w'.heap[y]? = w.heap[y]?:=λy J=>hw y (λe=>hS (e ▸ J))
 refine ⟨F.nt,F.defers,λt=>(F.slots t).mono (λ_ h=>h) H λm _=>hn m,⟨λm c I=>?_,λm Z y h1 h2 h3 h4=>?_,λy J=>(by rw[U];exact F.hok.dom y J),F.hok.env.mono (λ_ h=>h) H⟩,
   (by rw[U];exact F.size),λy J O=>?_,λm y h1 h2=>?_,F.S0,F.Snew,⟨ho.1.trans F.out.1,ho.2.trans F.out.2⟩,λj c I=>?_⟩
 rotate_right
 .grind [Blk.same_trans,OK,hput]
 .by_cases O:m=n
  .grind [hput]
  .simp only[hput,O,if_false] at I;refine(F.hok.blk m c I).mono (λ_ h=>h) (λ_ _ h=>h) H (λy J=>hw y ?_) rfl rfl λZ _=>hn Z;rintro rfl;exact O (F.hok.inj m n y (by simp[I]) (by simp[hb]) J hx)
 .have Y:∀m,(hput σ.h n (some L) m).isSome->(σ.h m).isSome:=by
   grind [hput]
  exact F.hok.inj m Z y (Y m h1) (Y Z h2) h3 h4
 all_goals grind [hput,OK]
def Blk.setRow:Blk->Nat->List AV->Blk
 |.var _ z,_,r=>.var r z
 |.arr k l z,e,r=>.arr k (l.set e r) z
def Blk.okc:Blk->List AV->Bool
 |.var _ _,_=>true
 |.arr _ _ _,c=>qA c
def aAQ (l:List (List AV)) (off len:Nat) (z:List AV):List (List AV):=l.take off++(List.replicate len z++l.drop (off+len))
theorem tY {l:List (List AV)}{off len:Nat}{z:List AV} (h:off+len<=l.length):(aAQ l off len z).length=l.length:=by simp[aAQ];omega
theorem aJi (l:List (List AV)) (off:Nat) (z:List AV):aAQ l off 0 z=l:=by simp[aAQ]
theorem aD9 {l:List (List AV)}{off len:Nat}{z:List AV} (h:off+len<=l.length) (i:Nat):(aAQ l off len z).getD i []=if off<=i∧i<off+len then z else l.getD i []:=by
 grind [aAQ]
def wrC (k:Nat) (z:List AV) (ev:Operand->AV) (h:Name->Option Blk) (X:Operand) (K:(Name->Option Blk)->Prop):Prop:=
 match ev X with
 | .loc n off len=>match h n with
  |some (.arr k' l fz)=>(fz=false∧k'=k∧z.length=k∧(z.all λx=>nN h x&&fO x)=true∧off+len<=l.length)∧K (hput h n (some (.arr k (aAQ l off len z) false)))
  |_=>False
 |_=>False
theorem aMV (L:OK C σ a w S ρ κ) {t e ty:TypeId}{i:TypeInfo}{F:Value} (hu:P.underlying t=some (.slice e)) (hi:P.info? e=some i) (hz:i.zero=some F) {X:Operand}{K:(Name->Option Blk)->Prop}
  (U:wrC i.size (F.cells.toList.map λx=>.v x) (evO σ.s) σ.h X K) :
  ∃h' w',K h'∧(Builtin.clear_ #[t] ty #[a.eval X]).run P w=.ok (.tuple #[]) w'∧OK C ⟨σ.s,h'⟩ a w' S ρ κ:=by
 have hX:=L.ev X;generalize a.eval X=vx at hX⊢;simp only[wrC] at U;split at U
 .rename_i n off len hc;rw[hc] at hX;split at U
  .rename_i k' l fz hb;obtain⟨⟨rfl,rfl,hd,hf,I⟩,hK⟩:=U;obtain⟨_,base,cap,rfl,hw,hs,Z,_⟩:=iL hX _ _ _ hb;cases len with
   | zero =>
    refine⟨_,w,hK,?_,?_⟩
    .cases base<;>simp[Builtin.clear_,run_underlying hu]
    .have:hput σ.h n (some (.arr i.size (aAQ l off 0 (F.cells.toList.map λx=>.v x)) false))=σ.h:=by
      funext m
      all_goals grind [aJi,hput]
     rw[this];exact L
   | succ len =>
    obtain⟨x,hx,rfl⟩:=Z (by omega);obtain⟨h0,⟨h1,h2⟩|⟨y,Y,T',fr,h1,h2,h3,h4,_,h5,h6,h7⟩⟩:=L.hok.blk n _ hb
    .rw[h1] at hx;cases hx
    obtain rfl:=Option.some.inj (hx.symm.trans h1);have hr:F.cells.size=i.size:=by simpa using hd
    have H:(Builtin.zeroCells F.cells (len+1)).size=(len+1)*i.size:=by simp[Builtin.zeroCells,hr]
    have O:∀j,j<(len+1)*i.size->(Builtin.zeroCells F.cells (len+1)).getD j undef=F.cells.getD (j%i.size) undef:=by
     grind [tN,Builtin.zeroCells]
    have ha:∀j,j<i.size->(F.cells.getD j undef).oneCell'=true∧RC S w ((F.cells.toList.map λx=>AV.v x).getD j .junk) (F.cells.getD j undef):=by
     intro j J;have hg:j<(F.cells.toList.map λx=>AV.v x).length:=by rw[hd];exact J
     have h8:=(tZ (S:=S) (w:=w) (ρ:=ρ) (κ:=κ) (h:=σ.h) F.cells).2 j hg;have h9:=aAU hf hg;simp only[Bool.and_eq_true] at h9;exact⟨yO h8 h9.1,h8.closed h9.2⟩
    have hk:(off+(len+1))*i.size<=l.length*i.size:=Nat.mul_le_mul_right _ I;rw[Nat.add_mul] at hk
    have hl:∀v∈(Builtin.zeroCells F.cells (len+1)).toList,v.oneCell'=true:=by
     intro v U;obtain⟨j,J,rfl⟩:=List.mem_iff_getElem.1 U;simp only[Array.length_toList,H] at J
     have ho:0<i.size:=by
      grind
     have:=(ha (j%i.size) (Nat.mod_lt _ ho)).1;rw[←O j J] at this;have hm:j<(Builtin.zeroCells F.cells (len+1)).size:=by rw[H];exact J
     simpa[hm] using this
    have hq:=mK (P:=P) (o:=off*i.size) (Builtin.zeroCells F.cells (len+1)).toList 0 Y w h2 h3 (by simp only[Array.length_toList,H];omega) hl;refine⟨_,fP w x (.cells (wX Y (off*i.size+0) (Builtin.zeroCells F.cells (len+1)).toList) T' fr),hK,?_,?_⟩
    rotate_left
    .refine L.write hb hx (h4 rfl) (tJ _ _ _) (λy hy=>lU _ _ hy) ⟨rfl,rfl⟩ (by simp[Blk.same,tY I]) λh' hn=>?_;have he:∀y,S y->(fP w x (.cells (wX Y (off*i.size+0) (Builtin.zeroCells F.cells (len+1)).toList) T' fr)).heap[y]? = w.heap[y]?:=λy hy=>lU _ _ (λe=>h4 rfl (e ▸ hy));refine⟨λp hp=>?_,.inr ⟨x,_,T',fr,hx,uO _ h2,by rw[gY];exact h3,λ_=>h4 rfl,by simp,by rw[gY];exact h5,by rw[gY,tY I];exact h6,λp j hp J=>?_⟩⟩
     .rw[tY I] at hp;rw[aD9 I];split
      .exact hd
      .exact h0 p hp
     .rw[tY I] at hp;rw[aD9 I,vR _ _ _ _ (by simp only[Array.length_toList,H];omega)];simp only[Array.length_toList,H,Nat.add_zero];by_cases hin:off<=p∧p<off+(len+1)
      .have g1:off*i.size<=p*i.size:=Nat.mul_le_mul_right _ hin.1;have g2:(p+1)*i.size<=(off+(len+1))*i.size:=Nat.mul_le_mul_right _ hin.2;rw[Nat.succ_mul,Nat.add_mul] at g2;rw[if_pos hin,if_pos (by omega)]
       have e1:p*i.size+j-off*i.size=(p-off)*i.size+j:=by
        rw[Nat.sub_mul];omega
       have e2:((p-off)*i.size+j)%i.size=j:=by rw[Nat.mul_comm,Nat.mul_add_mod,Nat.mod_eq_of_lt J]
       have e3:(p-off)*i.size+j<(len+1)*i.size:=by rw[Nat.sub_mul];omega
       have:=O _ e3;rw[e2] at this
       have e4:(Builtin.zeroCells F.cells (len+1)).toList.getD (p*i.size+j-off*i.size) undef=F.cells.getD j undef:=by
        rw[e1,←this,getD_toList]
       rw[e4];exact⟨(ha j J).1,(ha j J).2.mono (λ_ h=>h) he⟩
      .have:¬(off*i.size<=p*i.size+j∧p*i.size+j<off*i.size+(len+1)*i.size):=by
        rintro⟨g1,g2⟩;rcases Nat.lt_or_ge p off with hh|ht
        .have:(p+1)*i.size<=off*i.size:=Nat.mul_le_mul_right _ hh;rw[Nat.succ_mul] at this;omega
        .have:(off+(len+1))*i.size<=p*i.size:=Nat.mul_le_mul_right _ (by omega);rw[Nat.add_mul] at this;omega
       rw[if_neg hin,if_neg this];exact⟨(h7 p j hp J).1,(h7 p j hp J).2.mono (λ_ h=>h) he⟩
    .simp[Builtin.clear_,run_underlying hu,zeroValue,typeInfo,hi,hz,hq]
  .exact U.elim
 .exact U.elim
def wrS (k:Nat) (ev:Operand->AV) (h:Name->Option Blk) (A X:Operand) (K:(Name->Option Blk)->Prop):Prop:=
 match ev A with
 | .ptr n e c=>match h n,kG h (ev X) with
  |some b,some cs=>(b.fz=false∧0<k∧cs.length=k∧c+k<=(b.row e).length∧b.okc cs=true)∧K (hput h n (some (b.setRow e (lay (b.row e) c cs))))
  |_,_=>False
 |_=>False
theorem aEQ (l:List (List AV)) (e i:Nat) (r:List AV) (F:e<l.length):(l.set e r).getD i []=if i=e then r else l.getD i []:=by
 grind
theorem aJp (U:OK C σ a w S ρ κ) {T:TypeId}{k:Nat} (hk:jM P T=some k) {A X:Operand}{K:(Name->Option Blk)->Prop} (Z:wrS k (evO σ.s) σ.h A X K) :
  ∃h' w',K h'∧(Instr.storeAt T (a.eval A) (a.eval X)).run P w=.ok () w'∧OK C ⟨σ.s,h'⟩ a w' S ρ κ:=by
 have hA:=U.ev A;have hX:=U.ev X;generalize a.eval A=va at hA⊢;generalize a.eval X=vx at hX⊢;simp only[wrS] at Z;split at Z
 .rename_i n e c hc;rw[hc] at hA;split at Z
  .rename_i b cs hb hr;obtain⟨⟨hz,h9,hp,hd,hl⟩,hK⟩:=Z;obtain⟨⟨ha,hm⟩,Y⟩:=aDa hX hr;obtain⟨x,hx,rfl⟩:=gJ hA _ hb;have hg:=U.hok.blk n b hb
   have hf:∀v∈vx.cells.toList,v.oneCell'=true:=by
    intro v Z;obtain⟨j,O,rfl⟩:=List.mem_iff_getElem.1 Z;simp only[Array.length_toList] at O;have:=Y j (by omega);simpa[O] using this
   have H:∀(F:Array Value) (L:TypeId) (fr:Nat×Nat),w.heap[x]? = some (.cells F L fr)->aJo fr F.size->e*b.k+c+k<=F.size->
     (Instr.storeAt T (.pointer (some ⟨x,e*b.k+c,none⟩)) vx).run P w=.ok () (fP w x (.cells (wX F (e*b.k+c) vx.cells.toList) L fr)):=by
    intro F L fr hh ht hu;have hs:=mK (P:=P) (o:=e*b.k+c) vx.cells.toList 0 F w hh ht (by simp;omega) hf;have:¬(vx.cells.size≠k):=by omega
    simp only[Nat.add_zero] at hs;simp[Instr.storeAt,Instr.sureAddr,storeVar,run_sizeOf hk,←ha,hp,hs]
   cases b with
   | var rc z =>
    simp only[Blk.fz] at hz;subst hz;obtain⟨y,F,L,fr,h1,h2,h3,h4,_,h5,h6,h7⟩:=hg;obtain rfl:=Option.some.inj (hx.symm.trans h1)
    have he:e=0:=by
     cases e with
     |zero=>rfl
     |succ e=>simp[Blk.row] at hd;omega
    subst he;simp only[Blk.row,Blk.k,Nat.mul_zero,Nat.zero_add] at hd H hK⊢;refine⟨_,_,hK,H F L fr h2 h3 (by omega),?_⟩;refine U.write hb hx (h4 rfl) (tJ _ _ _) (λy hy=>lU _ _ hy) ⟨rfl,rfl⟩ (by simp[Blk.same,Blk.setRow,lN]) λh' hn=>?_;have J:∀y,S y->(fP w x (.cells (wX F c vx.cells.toList) L fr)).heap[y]? = w.heap[y]?:=λy hy=>lU _ _ (λe=>h4 rfl (e ▸ hy));refine⟨x,wX F c vx.cells.toList,L,fr,hx,uO _ h2,by rw[gY];exact h3,λ_=>h4 rfl,by simp,by rw[gY];exact h5,by rw[gY,lN];exact h6,λj O=>?_⟩;rw[lN] at O;rw[aAN _ _ _ _ (by omega),vR _ _ _ _ (by simp;omega)];simp only[Array.length_toList,←ha];by_cases I:c<=j∧j<c+cs.length
    .rw[if_pos I,if_pos I,getD_toList];exact⟨Y _ (by omega),(hm _ (by omega)).mono (λ_ h=>h) J λm _=>hn m⟩
    .rw[if_neg I,if_neg I];exact⟨(h7 j O).1,(h7 j O).2.mono (λ_ h=>h) J λm _=>hn m⟩
   | arr k' l z =>
    simp only[Blk.fz] at hz;subst hz;simp only[Blk.row,Blk.k] at hd H hK⊢
    have he:e<l.length:=by
     grind
    obtain⟨h0,⟨h1,h2⟩|⟨y,F,L,fr,h1,h2,h3,h4,_,h5,h6,h7⟩⟩:=hg
    .subst h2;simp at he
    obtain rfl:=Option.some.inj (hx.symm.trans h1);have hw:(l.getD e []).length=k':=h0 e he
    have qa:e*k'+k'<=F.size:=by
     have:(e+1)*k'<=l.length*k':=Nat.mul_le_mul_right _ he;rw[Nat.succ_mul] at this;omega
    refine⟨_,_,hK,H F L fr h2 h3 (by omega),?_⟩;refine U.write hb hx (h4 rfl) (tJ _ _ _) (λy hy=>lU _ _ hy) ⟨rfl,rfl⟩ (by simp[Blk.same,Blk.setRow]) λh' hn=>?_;have J:∀y,S y->(fP w x (.cells (wX F (e*k'+c) vx.cells.toList) L fr)).heap[y]? = w.heap[y]?:=λy hy=>lU _ _ (λe=>h4 rfl (e ▸ hy));refine⟨λi hi=>?_,.inr ⟨x,wX F (e*k'+c) vx.cells.toList,L,fr,hx,uO _ h2,by rw[gY];exact h3,λ_=>h4 rfl,by simp,by rw[gY];exact h5,by rw[gY];simpa using h6,λi j hi O=>?_⟩⟩
    .grind [lN]
    .simp only[List.length_set] at hi;rw[aEQ _ _ _ _ he,vR _ _ _ _ (by simp;omega)];simp only[Array.length_toList,←ha];by_cases ho:i=e
     .subst ho;rw[if_pos rfl,aAN _ _ _ _ (by omega)];by_cases I:c<=j∧j<c+cs.length
      .rw[if_pos I,if_pos (by omega),getD_toList];have e1:i*k'+j-(i*k'+c)=j-c:=by omega
       rw[e1];exact⟨Y _ (by omega),((hm _ (by omega)).closed (l6 hl (by omega))).mono (λ_ h=>h) J⟩
      .rw[if_neg I,if_neg (by omega)];exact⟨(h7 i j hi O).1,(h7 i j hi O).2.mono (λ_ h=>h) J⟩
     .rw[if_neg ho]
      have:¬(e*k'+c<=i*k'+j∧i*k'+j<e*k'+c+cs.length):=by
       rintro⟨g1,g2⟩;rcases Nat.lt_or_ge i e with hq|h8
       .have:(i+1)*k'<=e*k':=Nat.mul_le_mul_right _ hq;rw[Nat.succ_mul] at this;omega
       .have:(e+1)*k'<=i*k':=Nat.mul_le_mul_right _ (by omega);rw[Nat.succ_mul] at this;omega
      rw[if_neg this];exact⟨(h7 i j hi O).1,(h7 i j hi O).2.mono (λ_ h=>h) J⟩
  .exact Z.elim
 .exact Z.elim
end
section
variable [Envs]
variable {P:Program}{C:Ctx}{σ:FSt}{a:Act}{w:World}{S:Nat->Prop}{ρ:Name->Option Nat}{κ:Name->Nat}{h:Name->Option Blk}
def scr (n:Name) (x:AV):AV:=if x.has n then .junk else x
def aA3 (n:Name):Blk->Blk
 |.var c z=>.var (c.map (scr n)) z
 |b=>b
def pE (n:Name) (σ:FSt):FSt:=⟨λt=>scr n (σ.s t),λm=>if m=n then none else(σ.h m).map (aA3 n)⟩
theorem OK.kill (H:OK C σ a w S ρ κ) (n:Name):OK C (pE n σ) a w S ρ κ:=by
 have ha:∀c:Blk,c.same (aA3 n c):=by
  intro c;cases c<;>simp[aA3,Blk.same]
 have hn:∀m,dY ρ ρ κ κ σ.h (pE n σ).h m:=by
  intro m L F;simp only[pE] at F;split at F
  .cases F
  .cases hm:σ.h m with
   |none=>rw[hm] at F;cases F
   | some c =>
    grind
 have Z:∀x v,RV S w ρ κ σ.h x v->RV S w ρ κ (pE n σ).h (scr n x) v:=by
  intro x v hx;unfold scr;split
  .exact .junk _
  .exact hx.mono (λ_ h=>h) (λ_ _=>rfl) λm _=>hn m
 have I:∀m,((pE n σ).h m).isSome->(σ.h m).isSome:=by
  grind [pE]
 refine ⟨H.nt,H.defers,λt=>Z _ _ (H.slots t),⟨λm L F=>?_,λm m' y J h2 O U=>H.hok.inj m m' y (I m J) (I m' h2) O U,H.hok.dom,H.hok.env⟩,H.size,H.old,
   λm y J h2=>H.mine m y (I m J) h2,H.S0,H.Snew,H.out,λj L F=>?_⟩
 rotate_left
 .obtain⟨_,_,c,J,h2⟩:=hn (.b j) L F
  all_goals grind [Blk.same_trans,OK]
 simp only[pE] at F;split at F
 .cases F
 .cases hm:σ.h m with
  |none=>rw[hm] at F;cases F
  | some c =>
   rw[hm] at F;simp only[Option.map_some,Option.some.injEq] at F;subst F;have hc:=H.hok.blk m c hm;cases c with
   | var c z =>
    obtain⟨x,cs,T,fr,J,h2,O,U,Y,h5,h6,h7⟩:=hc;refine⟨x,cs,T,fr,J,h2,O,U,Y,h5,by simpa using h6,λj hj=>?_⟩
    all_goals grind
   |arr k l z=>exact hc
theorem OK.add2 (F:OK C σ a w S ρ κ) {w':World}{n:Name} (hf:gP n σ) {b:Blk}{ox:Option Nat}{kn:Nat} (ha:w.heap.size<=w'.heap.size)
  (hw:∀y,y<w.heap.size->ox≠some y->w'.heap[y]? = w.heap[y]?) (ho:w'.os=w.os∧w'.output=w.output)
  (Z:∀x,ox=some x->(∀m,(σ.h m).isSome->ρ m≠some x)∧¬S x∧(C.w0.heap.size<=x∨C.Mut x))
  (hb:∀ρ' κ' h',ρ' n=ox->κ' n=kn->(∀m,m≠n->dY ρ ρ' κ κ' σ.h h' m)->zM S w' ρ' κ' h' n b) :
  OK C ⟨σ.s,hput σ.h n (some b)⟩ a w' S (λm=>if m=n then ox else ρ m) (λm=>if m=n then kn else κ m):=by
 have hn:∀m,m≠n->dY ρ (λm=>if m=n then ox else ρ m) κ (λm=>if m=n then kn else κ m) σ.h (hput σ.h n (some b)) m:=by
  intro m U b' O;simp only[hput,U,if_false] at O⊢;exact⟨trivial,trivial,b',O,b'.same_refl⟩
 have I:∀y,S y->w'.heap[y]? = w.heap[y]?:=λy H=>hw y (F.hok.dom y H) λe=>(Z y e).2.1 H;refine⟨F.nt,F.defers,λt=>?_,⟨λm c L=>?_,λm m' y h1 h2 h3 h4=>?_,λy H=>Nat.lt_of_lt_of_le (F.hok.dom y H) ha,F.hok.env.mono (λ_ h=>h) I⟩,Nat.le_trans F.size ha,λy H U=>?_,λm y h1 h2=>?_,F.S0,F.Snew,⟨ho.1.trans F.out.1,ho.2.trans F.out.2⟩,λj c L=>?_⟩
 rotate_right
 .grind [hput,OK,gP]
 .refine(F.slots t).mono (λ_ h=>h) I λm U=>hn m ?_;rintro rfl;rw[hf.2.1 t] at U;cases U
 .by_cases J:m=n
  .grind [hput]
  .simp only[hput,J,if_false] at L;refine(F.hok.blk m c L).mono (λ_ h=>h) (λ_ _ h=>h) I (λy H=>hw y (F.hok.lt (by simp[L]) H) λe=>(Z y e).1 m (by simp[L]) H) (by simp[J]) (by simp[J]) λm' Y=>hn m' ?_;rintro rfl;rw[hf.2.2 m c L] at Y;cases Y
 .by_cases e1:m=n<;>by_cases e2:m'=n
  .rw[e1,e2]
  .grind [hput]
  .grind [hput]
  .simp only[hput,e1,e2,if_false] at h1 h2 h3 h4;exact F.hok.inj m m' y h1 h2 h3 h4
 all_goals grind [hput,OK]
theorem aHO {x:AV}{v:Value} (Y:HOK S w ρ κ h) (hx:RV S w ρ κ h x v) {k:Nat}{l:List (List AV)} (H:oQ k h x=some l) :
  ∃ base cap,v=.slice base l.length cap∧(∀i,i<l.length->(l.getD i []).length=k)∧
   ∃b off,(l≠[]->base=some ⟨b,off,none⟩∧b<w.heap.size)∧∀i j,i<l.length->j<k->∃u,w.cell? ⟨b,off+(i*k+j),none⟩=some u∧u.oneCell'=true∧RC S w ((l.getD i []).getD j .junk) u:=by
 unfold oQ at H;split at H
 .rename_i Z l';split at H
  .rename_i U;subst U;obtain rfl:=Option.some.inj H;cases zT hx with
   | sl _ _ base cap b off xs J hc ho hr U L =>
    exact⟨base,cap,rfl,U,b,off,λI=>⟨(J I).1,Y.dom _ (J I).2⟩,λi j hi O=>⟨_,hc i j hi O,ho i j hi O,hr i j hi O⟩⟩
  .cases H
 .rename_i n off len;split at H
  .rename_i Z l' z J;split at H
   .rename_i U;subst U;obtain rfl:=Option.some.inj H;obtain⟨hd,base,cap,rfl,hf,L,ha,_⟩:=iL hx _ _ _ J;have F:((l'.drop off).take len).length=len:=by simp;omega
    have he:∀i,i<len->((l'.drop off).take len).getD i []=l'.getD (off+i) []:=by
     intro i hi;simp[List.getD,hi]
    obtain⟨h0,h1⟩:=Y.blk n _ J;refine⟨base,cap,by rw[F],λi hi=>?_,?_⟩
    .grind
    .rcases h1 with⟨h1,h2⟩|⟨x,cs,T,fr,h1,h2,h3,h4,_,h5,h6,h7⟩
     .subst h2;simp only[List.length_nil] at hd;exact⟨0,0,λI=>absurd (List.length_eq_zero_iff.1 (by rw[F];omega)) I,λi j hi=>by rw[F] at hi;omega⟩
     .refine⟨x,off*Z,λI=>?_,λi j hi O=>?_⟩
      .grind [HOK,RV,oQ]
      .rw[F] at hi;have:=h7 (off+i) j (by omega) O
       have hg:(off+i)*Z+j<cs.size:=by
        have:(off+i+1)*Z<=l'.length*Z:=Nat.mul_le_mul_right _ (by omega);rw[Nat.succ_mul] at this;omega
       all_goals grind [cell_of_row]
   .cases H
  .cases H
 .obtain rfl:=Option.some.inj H;obtain rfl:=bL hx;exact⟨none,0,rfl,by simp,0,0,by simp,by simp⟩
 .cases H
def qI (k:Nat) (l:List (List AV)) (m:Nat):AV:=(l.getD (m/k) []).getD (m%k) .junk
theorem aBI {k n m:Nat} (h:m<n*k):m/k<n∧m%k<k∧m/k*k+m%k=m:=by
 have F:0<k:=by
  grind
 refine⟨(Nat.div_lt_iff_lt_mul F).2 h,Nat.mod_lt _ F,?_⟩
 all_goals grind [Nat.div_add_mod]
structure Reads (S:Nat->Prop) (w:World) (base:Option Addr) (k:Nat) (l:List (List AV)) (f:Nat->Value):Prop where
 rows:∀i,i<l.length->(l.getD i []).length=k
 cell:∀w':World,w'.heap=w.heap->∀m,m<l.length*k->∃b off,base=some ⟨b,off,none⟩∧w'.cell? ⟨b,off+m,none⟩=some (f m)
 one:∀m,m<l.length*k->(f m).oneCell'=true
 rc:∀m,m<l.length*k->RC S w (qI k l m) (f m)
theorem aCs {x:AV}{v:Value} (I:HOK S w ρ κ h) (hx:RV S w ρ κ h x v) {k:Nat}{l:List (List AV)} (Y:oQ k h x=some l) :
  ∃base cap f,v=.slice base l.length cap∧Reads S w base k l f:=by
 obtain⟨base,cap,rfl,F,b,off,hb,U⟩:=aHO I hx Y;refine⟨base,cap,λm=>(w.cell? ⟨b,off+m,none⟩).getD undef,rfl,F,λw' hw m H=>?_,λm H=>?_,λm H=>?_⟩
 all_goals
  obtain⟨L,h2,O⟩:=aBI H;obtain⟨u,J,Z,hr⟩:=U _ _ L h2;rw[O] at J
 .grind [World.cell?]
 .simp only[J,Option.getD_some];exact Z
 .simp only[J,Option.getD_some];exact hr
theorem Reads.first {base:Option Addr}{k:Nat}{l:List (List AV)}{f:Nat->Value} (F:Reads S w base k l f) (cap:Nat) {w':World} (H:w'.heap=w.heap) :
  (Builtin.firstCells k l.length (.slice base l.length cap)).run P w'=.ok ((List.range (l.length*k)).map f).toArray w':=by
 cases base with
 | none =>
  have:l.length*k=0:=by
   rcases Nat.eq_zero_or_pos (l.length*k) with h|h
   .exact h
   .obtain⟨_,_,h,_⟩:=F.cell w rfl 0 h;cases h
  simp[Builtin.firstCells,this]
 | some b =>
  grind [Builtin.firstCells,run_loadCells,addr_add,Reads]
theorem xK {k:Nat}{l F:List (List AV)}{m:Nat} (H:m<(l++F).length*k) :
  qI k (l++F) m=if m<l.length*k then qI k l m else qI k F (m-l.length*k):=by
 grind [qI,List.getElem?_append_left,Nat.le_div_iff_mul_le,Nat.mul_comm,Nat.sub_mul_div,Nat.sub_mul_mod]
theorem aAS {k:Nat}{l:List (List AV)}{cs:Array Value} (H:∀m,m<l.length*k->(cs.getD m undef).oneCell'=true∧RC S w (qI k l m) (cs.getD m undef)) :
  ∀i j,i<l.length->j<k->(cs.getD (i*k+j) undef).oneCell'=true∧RC S w ((l.getD i []).getD j .junk) (cs.getD (i*k+j) undef):=by
 intro i j hi I
 have F:i*k+j<l.length*k:=by
  have:(i+1)*k<=l.length*k:=Nat.mul_le_mul_right _ hi;rw[Nat.succ_mul] at this;omega
 all_goals grind [qI,Nat.mul_comm,Nat.mul_add_div,Nat.div_eq_of_lt,Nat.mul_add_mod,Nat.mod_eq_of_lt]
def aBL (k:Nat) (h:Name->Option Blk):AV->Option (Option Name×List (List AV))
 |.v (.slice none 0 0)=>some (none,[])
 | .loc n off len=>match h n with
  |some (.arr k' l z)=>if k'=k∧off=0∧len=l.length∧z=false then some (some n,l) else none
  |_=>none
 |_=>none
def aBC:Option Name->FSt->FSt
 |some n,σ=>pE n σ
 |none,σ=>σ
def wrA (k bytes:Nat) (σ:FSt) (d:Name) (A X:Operand) (K:FSt->AV->Prop):Prop:=
 match aBL k σ.h (evO σ.s A),oQ k σ.h (evO σ.s X) with
 | some (on,l),some l'=>((l.length+l'.length)*bytes<=2 ^ 47∧l.length+l'.length<2 ^ 62)∧
   K ⟨(aBC on σ).s,hput (aBC on σ).h d (some (.arr k (l++l') false))⟩ (.loc d 0 (l.length+l'.length))
 |_,_=>False
theorem aIy (L:OK C σ a w S ρ κ) {t t2 e e2:TypeId}{ty:TypeId}{i:TypeInfo}{zv:Value} (hu:P.underlying t=some (.slice e)) (qi:P.underlying t2=some (.slice e2)) (hi:P.info? e=some i) (hz:i.zero=some zv) (q3:zv.cells.size=i.size) {A X:Operand}{d:Name}{K:FSt->AV->Prop}
  (hf:∀on l,aBL i.size σ.h (evO σ.s A)=some (on,l)->gP d (aBC on σ)) (hv:wrA i.size i.bytes σ d A X K) :
  ∃σ' x v w' ρ' κ',K σ' x∧(Builtin.append_ #[t,t2] ty #[a.eval A,a.eval X]).run P w=.ok v w'∧OK C σ' a w' S ρ' κ'∧RV S w' ρ' κ' σ'.h x v:=by
 have hA:=L.ev A;have hX:=L.ev X;generalize a.eval A=va at hA⊢;generalize a.eval X=vx at hX⊢;simp only[wrA] at hv;split at hv
 .rename_i on l F H q0;obtain⟨⟨q7,q9⟩,hK⟩:=hv;have qa:=hf _ _ H;obtain⟨xb,xc,f',rfl,Z⟩:=aCs L.hok hX q0
  have hr:∃base cap f,va=.slice base l.length cap∧Reads S w base i.size l f∧cap<2 ^ 63∧
    ((on=none∧base=none∧cap=0∧l=[])∨∃n z,on=some n∧σ.h n=some (.arr i.size l false)∧z=()∧((ρ n=none∧base=none∧cap=0)∨∃x,ρ n=some x∧base=some ⟨x,0,none⟩∧cap*i.size<=κ n)):=by
   unfold aBL at H;split at H
   .rename_i h9;simp only[Option.some.injEq,Prod.mk.injEq] at H;obtain⟨rfl,rfl⟩:=H;rw[h9] at hA;obtain rfl:=bL hA;exact⟨none,0,λ_=>undef,rfl,⟨by simp,by simp,by simp,by simp⟩,by omega,.inl ⟨rfl,rfl,rfl,rfl⟩⟩
   .rename_i n off len h9;split at H
    .rename_i k' l2 z hb;split at H
     .rename_i h8;obtain⟨rfl,rfl,rfl,rfl⟩:=h8;simp only[Option.some.injEq,Prod.mk.injEq] at H;obtain⟨rfl,rfl⟩:=H;rw[h9] at hA;have qq:oQ i.size σ.h (.loc n 0 l2.length)=some l2:=by simp[oQ,hb]
      obtain⟨base,cap,f,qt,hR⟩:=aCs L.hok hA qq;obtain⟨_,qu,q6,hl,_,hd,_,qb⟩:=iL hA _ _ _ hb;rw[qt] at hl;simp only[Value.slice.injEq,true_and] at hl;obtain⟨rfl,rfl⟩:=hl;exact⟨base,cap,f,qt,hR,hd,.inr ⟨n,(),rfl,hb,rfl,qb rfl rfl⟩⟩
     .cases H
    .cases H
   .cases H
  obtain⟨base,cap,f,rfl,hR,hd,h0⟩:=hr
  have hh:OK C (aBC on σ) a w S ρ κ:=by
   cases on with
   |none=>exact L
   |some n=>exact L.kill n
  have hk:∀j,j<(l++F).length->((l++F).getD j []).length=i.size:=by
   intro j hj;simp only[List.length_append] at hj;by_cases O:j<l.length
   .simpa[List.getD,List.getElem?_append_left O] using hR.rows j O
   .simpa[List.getD,List.getElem?_append_right (Nat.le_of_not_lt O)] using Z.rows (j-l.length) (by omega)
  have J:=λw' hw=>Z.first (P:=P) xc (w':=w') hw;have ho:=λw' hw=>hR.first (P:=P) cap (w':=w') hw;have I:(l++F).length*i.size=l.length*i.size+F.length*i.size:=by rw[List.length_append,Nat.add_mul]
  have qg:∀v∈(List.range (F.length*i.size)).map f',v.oneCell'=true:=by
   intro v hv;obtain⟨m,hm,rfl⟩:=List.mem_map.1 hv;exact Z.one m (by simpa using hm)
  by_cases U:l.length+F.length<=cap
  .-- there is room: the row is written where it lies, or nothing is written
   have hq:base=none->cap=0->l=[]->∃σ' x v w' ρ' κ',K σ' x∧(Builtin.append_ #[t,t2] ty #[.slice base l.length cap,.slice xb F.length xc]).run P w=.ok v w'∧OK C σ' a w' S ρ' κ'∧RV S w' ρ' κ' σ'.h x v:=by
    rintro rfl rfl rfl;obtain rfl:F=[]:=by simpa using U
    have hc:=J w rfl;simp only[List.length_nil,Nat.zero_mul,List.range_zero,List.map_nil] at hc;refine⟨_,_,.slice none 0 0,w,_,_,hK,?_,hh.add2 qa (b:=.arr i.size [] false) (ox:=none) (kn:=0) (Nat.le_refl _) (λ_ _ _=>rfl) ⟨rfl,rfl⟩ (by simp) (fun ρ' κ' h' e1 e2 _=>⟨by simp,.inl ⟨e1,rfl⟩⟩),?_⟩
    .simp[Builtin.append_,run_underlying hu,run_underlying qi,sizeOf,typeInfo,hi,Builtin.lenOf,hc]
    .refine .loc _ _ _ _ λk' l2 z hb=>?_;simp only[hput,if_true,Option.some.injEq,Blk.arr.injEq] at hb;obtain⟨rfl,rfl,rfl⟩:=hb;exact⟨by simp,none,0,rfl,by omega,by omega,λh=>absurd h (by simp),λ_ _=>.inl ⟨by simp,rfl,rfl⟩⟩
   rcases h0 with⟨rfl,hs,ht,qd⟩|⟨n,_,rfl,hb,_,⟨hρ,hs,ht⟩|⟨x,hρ,rfl,ql⟩⟩
   .exact hq hs ht qd
   .obtain⟨_,⟨_,qd⟩|⟨x,_,_,_,hx,_⟩⟩:=L.hok.blk n _ hb
    .exact hq hs ht qd
    .rw[hρ] at hx;cases hx
   .-- written in place
    obtain⟨q8,⟨O,h2⟩|⟨y,Y,T,fr,O,h2,h3,h4,_,h5,h6,h7⟩⟩:=L.hok.blk n _ hb
    .rw[hρ] at O;cases O
    obtain rfl:=Option.some.inj (hρ.symm.trans O)
    have qn:l.length*i.size+F.length*i.size<=Y.size:=by
     rw[h5,←Nat.add_mul];exact Nat.le_trans (Nat.mul_le_mul_right _ U) ql
    have qr:=mK (P:=P) (o:=l.length*i.size) ((List.range (F.length*i.size)).map f') 0 Y w h2 h3 (by simp;omega) qg;simp only[Nat.add_zero] at qr;have hc:=J w rfl;have hS:¬S x:=h4 rfl;have qh:(wX Y (l.length*i.size) ((List.range (F.length*i.size)).map f')).size=Y.size:=gY _ _ _;have ha:=λm=>vR ((List.range (F.length*i.size)).map f') Y (l.length*i.size) m (by simp;omega);simp only[List.length_map,List.length_range] at ha
    refine ⟨_,_,.slice (some ⟨x,0,none⟩) (l.length+F.length) cap,fP w x (.cells (wX Y (l.length*i.size) ((List.range (F.length*i.size)).map f')) T fr),_,_,hK,?_,
      hh.add2 qa (b:=.arr i.size (l++F) false) (ox:=some x) (kn:=κ n) (by rw[tJ];exact Nat.le_refl _) (λy _ qz=>lU _ _ (λe=>qz (e ▸ rfl))) ⟨rfl,rfl⟩ ?_ ?_,?_⟩
    .simp[Builtin.append_,run_underlying hu,run_underlying qi,sizeOf,typeInfo,hi,Builtin.lenOf,hc,U,addr_add,qr]
    .intro x' q2;obtain rfl:=Option.some.inj q2;refine⟨λm hm he=>?_,hS,L.mine n x (by simp[hb]) hρ⟩;simp only[aBC,pE] at hm;split at hm
     .cases hm
     .rename_i qy;exact qy (L.hok.inj m n x (by simpa using hm) (by simp[hb]) he hρ)
    .intro ρ' κ' h' e1 e2 _;refine⟨hk,.inr ⟨x,_,T,fr,e1,uO _ h2,by rw[qh];exact h3,λ_=>hS,by simp,by rw[qh,h5,e2],by rw[I,qh];exact qn,aAS λm hm=>?_⟩⟩;have qj:∀y,S y->(fP w x (.cells (wX Y (l.length*i.size) ((List.range (F.length*i.size)).map f')) T fr)).heap[y]? = w.heap[y]?:=λy hy=>lU _ _ (λe=>hS (e ▸ hy));rw[xK hm,ha m];rw[I] at hm;by_cases qf:m<l.length*i.size
     .rw[if_pos qf,if_neg (by omega)];obtain⟨g1,g2,g3⟩:=aBI qf;have:=h7 _ _ g1 g2;rw[g3] at this;exact⟨this.1,this.2.mono (λ_ h=>h) qj⟩
     .rw[if_neg qf,if_pos (by omega)];have qe:m-l.length*i.size<F.length*i.size:=by omega
      have e:((List.range (F.length*i.size)).map f').getD (m-l.length*i.size) undef=f' (m-l.length*i.size):=by simp[List.getD,qe]
      rw[e];exact⟨Z.one _ qe,(Z.rc _ qe).mono (λ_ h=>h) qj⟩
    .refine .loc _ _ _ _ λk' l2 z qk=>?_;simp only[hput,if_true,Option.some.injEq,Blk.arr.injEq] at qk;obtain⟨rfl,rfl,rfl⟩:=qk;refine⟨by simp,_,_,rfl,U,hd,λ_=>⟨x,by simp,by simp⟩,λ_ _=>.inr ⟨x,by simp,rfl,by simpa using ql⟩⟩
  .-- it grows
   have qc:cap<l.length+F.length:=by omega
   have hc:=J w.drew rfl;have qm:=ho w.drew rfl;have qw:=growslice_fits (bytes:=i.bytes) qc (by omega);have q5:¬(9223372036854775807<(l.length:Int)+(F.length:Int)):=by omega
   have q4:¬(281474976710656<Builtin.nextslicecap (l.length+F.length) cap*i.bytes):=by omega
   have hn:¬(l.length+F.length<=cap):=by omega
   have qo:=grownCap_ge w (l.length+F.length) cap e;have qx:=grownCap_le_maxLen w (l.length+F.length) cap e (by unfold maxLen;omega);unfold maxLen at qx;have qs:=size_zeroCells zv.cells (grownCap w (l.length+F.length) cap e-(l.length+F.length));generalize hg:((List.range (l.length*i.size)).map f).toArray++((List.range (F.length*i.size)).map f').toArray++Builtin.zeroCells zv.cells (grownCap w (l.length+F.length) cap e-(l.length+F.length))=cs
   have hp:cs.size=grownCap w (l.length+F.length) cap e*i.size:=by
    rw[←hg];simp only[Array.size_append,List.size_toArray,List.length_map,List.length_range,qs,q3];rw[←Nat.add_mul,←Nat.add_mul];congr 1;omega
   have ha:∀m,m<l.length*i.size+F.length*i.size->cs.getD m undef=if m<l.length*i.size then f m else f' (m-l.length*i.size):=by
    intro m hm;rw[←hg];by_cases O:m<l.length*i.size
    .rw[if_pos O];simp[Array.getElem?_append,O,show m<l.length*i.size+F.length*i.size by omega]
    .rw[if_neg O];simp[Array.getElem?_append,hm,List.getElem_append,O]
   have qv:Ext w (w.drew.alloc (.cells cs e)):=(Ext.of_heap (w':=w.drew) rfl rfl rfl).trans (Ext.push w.drew _)
   obtain ⟨ρ',κ',qp,q1⟩:=hh.addArr qv qa (k:=i.size) (l:=l++F) (cs:=cs) (T:=e) (fr:=(0,0)) (x:=w.heap.size) (cap:=grownCap w (l.length+F.length) cap e) (Nat.le_refl _) (yV w.drew _) (λj _ hj=>by omega)
    hk (by rw[hp,List.length_append];exact Nat.mul_le_mul_right _ qo) (aAS λm hm=>by
      rw[xK hm];rw[I] at hm;rw[ha m hm];by_cases O:m<l.length*i.size
      . rw[if_pos O,if_pos O];exact⟨hR.one _ O,hR.rc _ O⟩
      . rw[if_neg O,if_neg O];exact⟨Z.one _ (by omega),Z.rc _ (by omega)⟩) ⟨by rw[List.length_append];exact qo,by omega,by rw[hp];exact Nat.le_refl _⟩
   refine⟨_,_,_,_,ρ',κ',hK,?_,qp,by rw[←List.length_append];exact q1⟩;simp[Builtin.append_,run_underlying hu,run_underlying qi,sizeOf,typeInfo,zeroValue,hi,hz,Builtin.lenOf,hn,q5,q4,Question.forced,hc,qm,newRow];rw[←hg];exact⟨rfl,by rw[Array.append_assoc];rfl⟩
 .exact hv.elim
end
end Go.Vs
