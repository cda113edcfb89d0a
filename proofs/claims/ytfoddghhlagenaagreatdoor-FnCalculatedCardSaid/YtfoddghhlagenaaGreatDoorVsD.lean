/- What reads is what the machine reads. -/
import Derived.Calls
import Derived.Orders
import Derived.Still
import Derived.Laws.Sem
import Derived.Lib.ItoaNum
import Derived.Laws.Cells
import Derived.Laws.Slices
set_option linter.all false
set_option maxHeartbeats 8000000
namespace Go.Vs
section
class Envs where
 l:List (Nat×(Option Obj->Prop))
def envs [Envs]:List (Nat×(Option Obj->Prop)):=Envs.l
end
section
variable [Envs]
inductive Name where
 |b (j:Nat)
 |t (slot j:Nat)
 deriving DecidableEq
inductive AV where
 |v (x:Value)
 |sl (k:Nat) (l:List (List AV))
 |ro (c:List AV)
 |loc (n:Name) (off len:Nat)
 |ptr (n:Name) (e c:Nat)
 |fn (f:FuncId) (caps:List AV)
 |agg (c:List AV)
 |tup (c:List AV)
 |junk
 deriving Inhabited
inductive Blk where
 |var (c:List AV) (fz:Bool)
 |arr (k:Nat) (l:List (List AV)) (fz:Bool)
def Blk.k:Blk->Nat
 |.var _ _=>0
 |.arr k _ _=>k
def Blk.fz:Blk->Bool
 |.var _ z=>z
 |.arr _ _ z=>z
def Blk.same:Blk->Blk->Prop
 |.var c _,.var c' _=>c.length=c'.length
 |.arr k l _,.arr k' l' _=>k=k'∧l.length=l'.length
 |_,_=>False
theorem Blk.same_refl (b:Blk):b.same b:=by cases b<;>simp[Blk.same]
theorem Blk.same_trans {a b c:Blk} (h:a.same b) (h':b.same c):a.same c:=by
 grind [Blk.same,Blk]
theorem Blk.same_k {a b:Blk} (h:a.same b):a.k=b.k:=by
 grind [Blk.same,Blk.k,Blk]
inductive RC (S:Nat->Prop) (w:World):AV->Value->Prop
 |v (x:Value):RC S w (.v x) x
 | sl (k:Nat) (l:List (List AV)) (base:Option Addr) (cap x off:Nat) (xs:Nat->Value)
   (hb:l≠[]->base=some ⟨x,off,none⟩∧S x)
   (hc:∀i j,i<l.length->j<k->w.cell? ⟨x,off+(i*k+j),none⟩=some (xs (i*k+j)))
   (ho:∀i j,i<l.length->j<k->(xs (i*k+j)).oneCell'=true)
   (hr:∀i j,i<l.length->j<k->RC S w ((l.getD i []).getD j .junk) (xs (i*k+j)))
   (hk:∀i,i<l.length->(l.getD i []).length=k)
   (hcap:l.length<=cap∧cap<2 ^ 63):RC S w (.sl k l) (.slice base l.length cap)
 | ro (c:List AV) (x off:Nat) (xs:Nat->Value) (hS:S x)
   (hc:∀j,j<c.length->w.cell? ⟨x,off+j,none⟩=some (xs j))
   (ho:∀j,j<c.length->(xs j).oneCell'=true)
   (hr:∀j,j<c.length->RC S w (c.getD j .junk) (xs j)):RC S w (.ro c) (.pointer (some ⟨x,off,none⟩))
 | fn (f:FuncId) (c:List AV) (vs:Array Value) (hl:c.length=vs.size)
   (hr:∀j,j<c.length->RC S w (c.getD j .junk) (vs.getD j undef)):RC S w (.fn f c) (.func (.func f) #[] vs)
 | agg (c:List AV) (vs:Array Value) (hl:c.length=vs.size)
   (hr:∀j,j<c.length->RC S w (c.getD j .junk) (vs.getD j undef)):RC S w (.agg c) (.agg vs)
 | tup (c:List AV) (vs:Array Value) (hl:c.length=vs.size)
   (hr:∀j,j<c.length->RC S w (c.getD j .junk) (vs.getD j undef)):RC S w (.tup c) (.tuple vs)
theorem cell?_of_block {w w':World}{b off:Nat} (h:w'.heap[b]? = w.heap[b]?):w'.cell? ⟨b,off,none⟩=w.cell? ⟨b,off,none⟩:=by
 simp[World.cell?,h]
theorem RC.mono {S S':Nat->Prop}{w w':World} (hS:∀b,S b->S' b) (hw:∀b,S b->w'.heap[b]? = w.heap[b]?) {x:AV}{v:Value} (h:RC S w x v):RC S' w' x v:=by
 induction h with
 |v x=>exact .v x
 | sl k l base cap x off xs hb hc ho hr hk hcap ih =>
  by_cases hl:l=[]
  .subst hl
   exact .sl k [] base cap x off xs (by simp) (by simp) (by simp) (by simp) (by simp) hcap
  .refine .sl k l base cap x off xs (λh=>⟨(hb h).1,hS _ (hb h).2⟩) (λi j hi hj=>?_) ho ih hk hcap
   rw[cell?_of_block (hw _ (hb hl).2)];exact hc i j hi hj
 | ro c x off xs hx hc ho hr ih =>
  refine .ro c x off xs (hS _ hx) (λj hj=>?_) ho ih
  rw[cell?_of_block (hw _ hx)];exact hc j hj
 |fn f c vs hl hr ih=>exact .fn f c vs hl ih
 |agg c vs hl hr ih=>exact .agg c vs hl ih
 |tup c vs hl hr ih=>exact .tup c vs hl ih
mutual
def AV.has (n:Name):AV->Bool
 |.loc m _ _=>decide (m=n)
 |.ptr m _ _=>decide (m=n)
 |.fn _ c=>iL n c
 |.agg c=>iL n c
 |.tup c=>iL n c
 |_=>false
def iL (n:Name):List AV->Bool
 | []=>false
 |x::r=>x.has n||iL n r
end
theorem lT {n:Name}:∀{c:List AV}{j:Nat},iL n c=false->(c.getD j .junk).has n=false
 | [],j,_=>by simp[AV.has]
 |x::r,0,h=>by simp[iL] at h;simpa using h.1
 |x::r,j+1,h=>by simp[iL] at h;simpa using lT (c:=r) (j:=j) h.2
def Blk.has (n:Name):Blk->Bool
 |.var c _=>iL n c
 |.arr _ _ _=>false
/-! ## the open reading -/
def rP (ρ:Name->Option Nat) (κ:Name->Nat) (h:Name->Option Blk) (n:Name) (off len:Nat) (v:Value):Prop:=
 ∀ k l z,h n=some (.arr k l z)->off+len<=l.length∧∃base cap,v=.slice base len cap∧len<=cap∧cap<2 ^ 63∧
  (0<len->∃x,ρ n=some x∧base=some ⟨x,off*k,none⟩)∧
  (off=0->len=l.length->(ρ n=none∧base=none∧cap=0)∨∃x,ρ n=some x∧base=some ⟨x,0,none⟩∧cap*k<=κ n)
def zO (ρ:Name->Option Nat) (h:Name->Option Blk) (n:Name) (e c:Nat) (v:Value):Prop:=
 ∀b,h n=some b->∃x,ρ n=some x∧v=.pointer (some ⟨x,e*b.k+c,none⟩)
inductive RV (S:Nat->Prop) (w:World) (ρ:Name->Option Nat) (κ:Name->Nat) (h:Name->Option Blk):AV->Value->Prop
 |junk (v:Value):RV S w ρ κ h .junk v
 |clo {x:AV}{v:Value} (hx:RC S w x v):RV S w ρ κ h x v
 |loc (n:Name) (off len:Nat) (v:Value) (hv:rP ρ κ h n off len v):RV S w ρ κ h (.loc n off len) v
 |ptr (n:Name) (e c:Nat) (v:Value) (hv:zO ρ h n e c v):RV S w ρ κ h (.ptr n e c) v
 | fn (f:FuncId) (c:List AV) (vs:Array Value) (hl:c.length=vs.size)
   (hr:∀j,j<c.length->RV S w ρ κ h (c.getD j .junk) (vs.getD j undef)):RV S w ρ κ h (.fn f c) (.func (.func f) #[] vs)
 | agg (c:List AV) (vs:Array Value) (hl:c.length=vs.size)
   (hr:∀j,j<c.length->RV S w ρ κ h (c.getD j .junk) (vs.getD j undef)):RV S w ρ κ h (.agg c) (.agg vs)
 | tup (c:List AV) (vs:Array Value) (hl:c.length=vs.size)
   (hr:∀j,j<c.length->RV S w ρ κ h (c.getD j .junk) (vs.getD j undef)):RV S w ρ κ h (.tup c) (.tuple vs)
def dK (ρ ρ':Name->Option Nat) (κ κ':Name->Nat) (h h':Name->Option Blk) (n:Name):Prop:=
 ∀b',h' n=some b'->ρ' n=ρ n∧κ' n=κ n∧∃b,h n=some b∧b.same b'
theorem rP.mono {ρ ρ':Name->Option Nat}{κ κ':Name->Nat}{h h':Name->Option Blk}{n:Name}{off len:Nat}{v:Value}
  (hn:dK ρ ρ' κ κ' h h' n) (hv:rP ρ κ h n off len v):rP ρ' κ' h' n off len v:=by
 intro k l z hl
 all_goals grind [Blk.same,Blk,dK,rP]
theorem zO.mono {ρ ρ':Name->Option Nat}{κ κ':Name->Nat}{h h':Name->Option Blk}{n:Name}{e c:Nat}{v:Value}
  (hn:dK ρ ρ' κ κ' h h' n) (hv:zO ρ h n e c v):zO ρ' h' n e c v:=by
 grind [Blk.same_k,dK,zO]
theorem RV.mono {S S':Nat->Prop}{w w':World}{ρ ρ':Name->Option Nat}{κ κ':Name->Nat}{h h':Name->Option Blk}
  (hS:∀b,S b->S' b) (hw:∀b,S b->w'.heap[b]? = w.heap[b]?) {x:AV}{v:Value}
  (hx:RV S w ρ κ h x v) (hn:∀n,x.has n=true->dK ρ ρ' κ κ' h h' n):RV S' w' ρ' κ' h' x v:=by
 have key:∀c:List AV,∀j,j<c.length->∀n,(c.getD j .junk).has n=true->iL n c=true:=by
  grind [lT]
 induction hx with
 |junk v=>exact .junk v
 |clo hx=>exact .clo (hx.mono hS hw)
 |loc n off len v hv=>exact .loc n off len v (hv.mono (hn n (by simp[AV.has])))
 |ptr n e c v hv=>exact .ptr n e c v (hv.mono (hn n (by simp[AV.has])))
 |fn f c vs hl hr ih=>exact .fn f c vs hl λj hj=>ih j hj λn hh=>hn n (by simpa[AV.has] using key c j hj n hh)
 |agg c vs hl hr ih=>exact .agg c vs hl λj hj=>ih j hj λn hh=>hn n (by simpa[AV.has] using key c j hj n hh)
 |tup c vs hl hr ih=>exact .tup c vs hl λj hj=>ih j hj λn hh=>hn n (by simpa[AV.has] using key c j hj n hh)
/-! ## the blocks -/
def aBM (fr:Nat×Nat) (n:Nat):Prop:=∀j,j<n->¬(fr.1<=j∧j<fr.2)
def pF (S:Nat->Prop) (w:World) (ρ:Name->Option Nat) (κ:Name->Nat) (h:Name->Option Blk) (n:Name):Blk->Prop
 | .var c z=>∃x cs T fr,ρ n=some x∧w.heap[x]? = some (.cells cs T fr)∧aBM fr cs.size∧(z=false->¬S x)∧(z=true->S x)∧cs.size=κ n∧
   c.length<=cs.size∧∀j,j<c.length->(cs.getD j undef).oneCell'=true∧RV S w ρ κ h (c.getD j .junk) (cs.getD j undef)
 | .arr k l z=>(∀i,i<l.length->(l.getD i []).length=k)∧((ρ n=none∧l=[])∨∃x cs T fr,ρ n=some x∧w.heap[x]? = some (.cells cs T fr)∧aBM fr cs.size∧
     (z=false->¬S x)∧(z=true->S x)∧cs.size=κ n∧l.length*k<=cs.size∧
     ∀i j,i<l.length->j<k->(cs.getD (i*k+j) undef).oneCell'=true∧RC S w ((l.getD i []).getD j .junk) (cs.getD (i*k+j) undef))
def Env (S:Nat->Prop) (w:World):Prop:=∀p,p∈envs->S p.1∧p.2 w.heap[p.1]?
class Tab (g:Nat) (p:Option Obj->Prop) extends Envs where
 has:∀S w,@Env toEnvs S w->S g∧p w.heap[g]?
theorem Env.mono {S S':Nat->Prop}{w w':World} (h:Env S w) (hS:∀b,S b->S' b) (hw:∀b,S b->w'.heap[b]? = w.heap[b]?):Env S' w':=
 λp hp=>⟨hS _ (h p hp).1,by rw[hw _ (h p hp).1];exact(h p hp).2⟩
structure HOK (S:Nat->Prop) (w:World) (ρ:Name->Option Nat) (κ:Name->Nat) (h:Name->Option Blk):Prop where
 blk:∀n b,h n=some b->pF S w ρ κ h n b
 inj:∀n m x,(h n).isSome->(h m).isSome->ρ n=some x->ρ m=some x->n=m
 dom:∀b,S b->b<w.heap.size
 env:Env S w
theorem pF.mono {S S':Nat->Prop}{w w':World}{ρ ρ':Name->Option Nat}{κ κ':Name->Nat}{h h':Name->Option Blk}{n:Name}{b:Blk}
  (hS:∀b,S b->S' b) (hS':∀x,ρ n=some x->S' x->S x) (hw:∀b,S b->w'.heap[b]? = w.heap[b]?)
  (hb:pF S w ρ κ h n b) (hx:∀x,ρ n=some x->w'.heap[x]? = w.heap[x]?) (e1:ρ' n=ρ n) (e2:κ' n=κ n)
  (hn:∀m,b.has m=true->dK ρ ρ' κ κ' h h' m):pF S' w' ρ' κ' h' n b:=by
 cases b with
 | var c z =>
  obtain⟨x,cs,T,fr,h1,h2,h3,h4,h4',h5,h6,h7⟩:=hb
  refine⟨x,cs,T,fr,by rw[e1];exact h1,by rw[hx x h1];exact h2,h3,λhz hs=>h4 hz (hS' _ h1 hs),λhz=>hS _ (h4' hz),by rw[e2];exact h5,h6,λj hj=>⟨(h7 j hj).1,(h7 j hj).2.mono hS hw λm hm=>hn m ?_⟩⟩
  all_goals grind [Blk.has,lT]
 | arr k l z =>
  obtain⟨h0,h⟩:=hb
  refine⟨h0,?_⟩
  rcases h with⟨h1,h2⟩|⟨x,cs,T,fr,h1,h2,h3,h4,h4',h5,h6,h7⟩
  .grind
  .exact .inr ⟨x,cs,T,fr,by rw[e1];exact h1,by rw[hx x h1];exact h2,h3,λhz hs=>h4 hz (hS' _ h1 hs),λhz=>hS _ (h4' hz),by rw[e2];exact h5,h6,λi j hi hj=>⟨(h7 i j hi hj).1,(h7 i j hi hj).2.mono hS hw⟩⟩
end
section
def powP:Option Obj->Prop:=λo=>∃T fr,o=some (.cells (Lib.pow10Tab.map λz=>Value.int .u64 z).toArray T fr)
theorem Tab.at {g:Nat}{p:Option Obj->Prop} [h:Tab g p] {S:Nat->Prop}{w:World} (he:Env S w):S g∧p w.heap[g]?:=h.has S w he
end
section
variable [Envs]
structure FSt where
 s:Nat->AV
 h:Name->Option Blk
structure Ctx where
 nt:Nat
 w0:World
 S0:Nat->Prop
 Mut:Nat->Prop
 ρ0:Nat->Option Nat:=λ_=>none
 κ0:Nat->Nat:=λ_=>0
 h0:Nat->Option Blk:=λ_=>none
structure OK (C:Ctx) (σ:FSt) (a:Act) (w:World) (S:Nat->Prop) (ρ:Name->Option Nat) (κ:Name->Nat):Prop where
 nt:a.tmps.size=C.nt
 defers:a.defers=[]
 slots:∀t,RV S w ρ κ σ.h (σ.s t) (a.tmps.getD t undef)
 hok:HOK S w ρ κ σ.h
 size:C.w0.heap.size<=w.heap.size
 old:∀b,b<C.w0.heap.size->¬C.Mut b->w.heap[b]? = C.w0.heap[b]?
 mine:∀n x,(σ.h n).isSome->ρ n=some x->C.w0.heap.size<=x∨C.Mut x
 S0:∀b,C.S0 b->S b
 Snew:∀b,S b->C.S0 b∨C.w0.heap.size<=b∨C.Mut b
 out:w.os=C.w0.os∧w.output=C.w0.output
 keep:∀j b,σ.h (.b j)=some b->ρ (.b j)=C.ρ0 j∧κ (.b j)=C.κ0 j∧∃b0,C.h0 j=some b0∧b0.same b
def upd (s:Nat->AV) (d:Option Nat) (x:AV):Nat->AV:=
 match d with
 |some d=>λt=>if t=d then x else s t
 |none=>s
def hput (h:Name->Option Blk) (n:Name) (b:Option Blk):Name->Option Blk:=λm=>if m=n then b else h m
theorem OK.put {C:Ctx}{σ:FSt}{a:Act}{w:World}{S:Nat->Prop}{ρ:Name->Option Nat}{κ:Name->Nat} (hok:OK C σ a w S ρ κ) {x:AV}{v:Value}
  (hx:RV S w ρ κ σ.h x v) {d:Option Nat} (hd:∀d',d=some d'->d'<C.nt):OK C ⟨upd σ.s d x,σ.h⟩ (a.put d v) w S ρ κ:=by
 cases d with
 |none=>exact hok
 | some d =>
  have hd:=hd d rfl
  refine{hok with nt:=by simp[Act.put,hok.nt],defers:=by simp[Act.put,hok.defers],slots:=λt=>?_}
  simp only[upd,Act.put]
  by_cases ht:t=d
  .subst ht
   have:t<a.tmps.size:=by rw[hok.nt];exact hd
   simp only[if_true]
   have e:(a.tmps.setIfInBounds t v).getD t undef=v:=by simp[this]
   rw[e];exact hx
  .simp only[ht,if_false]
   have e:(a.tmps.setIfInBounds d v).getD t undef=a.tmps.getD t undef:=by
    simp[Array.getElem?_setIfInBounds_ne (Ne.symm ht)]
   rw[e];exact hok.slots t
def Ext (w w':World):Prop:=w.heap.size<=w'.heap.size∧(∀b,b<w.heap.size->w'.heap[b]? = w.heap[b]?)∧w'.os=w.os∧w'.output=w.output
theorem Ext.refl (w:World):Ext w w:=⟨Nat.le_refl _,λ_ _=>rfl,rfl,rfl⟩
theorem Ext.of_heap {w w':World} (h:w'.heap=w.heap) (h1:w'.os=w.os) (h2:w'.output=w.output):Ext w w':=⟨by rw[h];exact Nat.le_refl _,λ_ _=>by rw[h],h1,h2⟩
theorem Ext.push (w:World) (o:Obj):Ext w {w with heap:=w.heap.push o}:=
 ⟨by simp,λb hb=>by simp[Array.getElem?_push,Nat.ne_of_lt hb],rfl,rfl⟩
theorem Ext.trans {w w1 w2:World} (h:Ext w w1) (h':Ext w1 w2):Ext w w2:=
 ⟨Nat.le_trans h.1 h'.1,λb hb=>by rw[h'.2.1 b (Nat.lt_of_lt_of_le hb h.1),h.2.1 b hb],h'.2.2.1.trans h.2.2.1,h'.2.2.2.trans h.2.2.2⟩
theorem dK.refl (ρ:Name->Option Nat) (κ:Name->Nat) (h:Name->Option Blk) (n:Name):dK ρ ρ κ κ h h n:=
 λb' hb=>⟨rfl,rfl,b',hb,b'.same_refl⟩
theorem HOK.lt {S:Nat->Prop}{w:World}{ρ:Name->Option Nat}{κ:Name->Nat}{h:Name->Option Blk} (hok:HOK S w ρ κ h) {n:Name}{x:Nat}
  (hn:(h n).isSome) (hx:ρ n=some x):x<w.heap.size:=by
 obtain⟨b,hb⟩:=Option.isSome_iff_exists.1 hn
 have:=hok.blk n b hb
 have key:∀{x:Nat}{cs:Array Value}{T:TypeId}{fr:Nat×Nat},w.heap[x]? = some (.cells cs T fr)->x<w.heap.size:=by
  grind
 cases b with
 | var c z =>
  obtain⟨y,cs,T,fr,h1,h2,_⟩:=this
  all_goals grind
 | arr k l z =>
  obtain⟨_,⟨h1,_⟩|⟨y,cs,T,fr,h1,h2,_⟩⟩:=this
  all_goals grind
theorem HOK.ext {S:Nat->Prop}{w w':World}{ρ:Name->Option Nat}{κ:Name->Nat}{h:Name->Option Blk} (hok:HOK S w ρ κ h) (he:Ext w w'):HOK S w' ρ κ h where
 blk n b hb:=(hok.blk n b hb).mono (λ_ h=>h) (λ_ _ h=>h) (λb hb=>he.2.1 b (hok.dom b hb)) (λx hx=>he.2.1 x (hok.lt (by simp[hb]) hx)) rfl rfl (λm _=>dK.refl _ _ _ _)
 inj:=hok.inj
 dom b hb:=Nat.lt_of_lt_of_le (hok.dom b hb) he.1
 env:=hok.env.mono (λ_ h=>h) λb hb=>he.2.1 b (hok.dom b hb)
theorem OK.ext {C:Ctx}{σ:FSt}{a:Act}{w w':World}{S:Nat->Prop}{ρ:Name->Option Nat}{κ:Name->Nat} (hok:OK C σ a w S ρ κ) (he:Ext w w'):OK C σ a w' S ρ κ where
 nt:=hok.nt
 defers:=hok.defers
 slots t:=(hok.slots t).mono (λ_ h=>h) (λb hb=>he.2.1 b (hok.hok.dom b hb)) (λn _=>dK.refl _ _ _ _)
 hok:=hok.hok.ext he
 size:=Nat.le_trans hok.size he.1
 old b hb hm:=by rw[he.2.1 b (Nat.lt_of_lt_of_le hb hok.size)];exact hok.old b hb hm
 mine:=hok.mine
 S0:=hok.S0
 Snew:=hok.Snew
 out:=⟨he.2.2.1.trans hok.out.1,he.2.2.2.trans hok.out.2⟩
 keep:=hok.keep
def dU (n:Name) (σ:FSt):Prop:=(σ.h n=none∧∀j,n≠.b j)∧(∀t,(σ.s t).has n=false)∧∀m b,σ.h m=some b->b.has n=false
theorem OK.add {C:Ctx}{σ:FSt}{a:Act}{w w':World}{S:Nat->Prop}{ρ:Name->Option Nat}{κ:Name->Nat} (hok:OK C σ a w S ρ κ) (he:Ext w w')
  {n:Name} (hf:dU n σ) {b:Blk}{ox:Option Nat}{kn:Nat} (hox:∀x,ox=some x->w.heap.size<=x)
  (hb:∀ρ' κ' h',ρ' n=ox->κ' n=kn->(∀m,m≠n->dK ρ ρ' κ κ' σ.h h' m)->pF S w' ρ' κ' h' n b) :
  OK C ⟨σ.s,hput σ.h n (some b)⟩ a w' S (λm=>if m=n then ox else ρ m) (λm=>if m=n then kn else κ m):=by
 have hn:∀m,m≠n->dK ρ (λm=>if m=n then ox else ρ m) κ (λm=>if m=n then kn else κ m) σ.h (hput σ.h n (some b)) m:=by
  intro m hm b' hb'
  simp only[hput,hm,if_false] at hb'⊢
  exact⟨trivial,trivial,b',hb',b'.same_refl⟩
 have hok':=hok.ext he
 have hkeep:∀j c,hput σ.h n (some b) (.b j)=some c->(if Name.b j=n then ox else ρ (.b j))=C.ρ0 j∧(if Name.b j=n then kn else κ (.b j))=C.κ0 j∧∃b0,C.h0 j=some b0∧b0.same c:=by
  grind [hput,OK,dU]
 refine{hok' with slots:=λt=>?_,hok:=⟨λm c hc=>?_,λm m' x h1 h2 h3 h4=>?_,hok'.hok.dom,hok'.hok.env⟩,mine:=λm x h1 h2=>?_,keep:=hkeep}
 .refine(hok'.slots t).mono (λ_ h=>h) (λ_ _=>rfl) λm hm=>hn m ?_
  rintro rfl
  rw[hf.2.1 t] at hm;cases hm
 .by_cases hmn:m=n
  .grind [hput]
  .simp only[hput,hmn,if_false] at hc
   refine(hok'.hok.blk m c hc).mono (λ_ h=>h) (λ_ _ h=>h) (λ_ _=>rfl) (λ_ _=>rfl) (by simp[hmn]) (by simp[hmn]) λm' hm'=>hn m' ?_
   all_goals grind [dU]
 .have old:∀m x,m≠n->(hput σ.h n (some b) m).isSome->(if m=n then ox else ρ m)=some x->x<w.heap.size:=by
   intro m x hm h1 h2
   simp only[hput,hm,if_false] at h1 h2
   exact hok.hok.lt h1 h2
  by_cases e1:m=n<;>by_cases e2:m'=n
  .rw[e1,e2]
  .grind
  .grind
  .simp only[hput,e1,e2,if_false] at h1 h2 h3 h4
   exact hok.hok.inj m m' x h1 h2 h3 h4
 all_goals grind [hput,OK]
/-! ## operands -/
def AV.ofValue:Value->AV
 |.agg cs=>.agg (cs.toList.map λx=>.v x)
 |x=>.v x
def evO (s:Nat->AV):Operand->AV
 |.tmp t=>s t
 |.const v=>.ofValue v
 |.global _=>.junk
 |.func f=>.fn f []
theorem aDD {S:Nat->Prop}{w:World} (cs:Array Value):RC S w (.agg (cs.toList.map λx=>.v x)) (.agg cs):=by
 refine .agg _ _ (by simp) λj hj=>?_
 simp only[List.length_map,Array.length_toList] at hj
 simp[List.getD,hj]
 exact .v _
theorem OK.ev {C:Ctx}{σ:FSt}{a:Act}{w:World}{S:Nat->Prop}{ρ:Name->Option Nat}{κ:Name->Nat} (hok:OK C σ a w S ρ κ) (x:Operand) :
  RV S w ρ κ σ.h (evO σ.s x) (a.eval x):=by
 cases x with
 |tmp t=>exact hok.slots t
 |const v=>cases v<;>first|exact .clo (aDD _)|exact .clo (.v _)
 |global g=>exact .junk _
 |func f=>exact .fn f [] #[] rfl (by simp)
end
section
variable [Envs]
inductive AOp where
 |mv (x:Operand)
 |pick (c a b:Operand)
 |load (g:Bool) (k:Nat) (a:Operand)
 |fieldAddr (off:Nat) (x:Operand)
 |loadV (g:Bool) (k:Nat) (a:Operand)
 |fieldV (off:Nat) (x:Operand)
 |field (g:Bool) (off k:Nat) (x:Operand)
 |idxSl (k:Nat) (x i:Operand)
 |idxArr (n k:Nat) (x i:Operand)
 |idxAgg (g:Bool) (n k:Nat) (x i:Operand)
 |idxStr (x i:Operand)
 |bin (op:BinOp) (x y:Operand)
 |binS (op:BinOp) (x y:Operand)
 |binB (op:BinOp) (x y:Operand)
 |un (op:UnOp) (x:Operand)
 |conv (k:IntKind) (x:Operand)
 |b2s (x:Operand)
 |eqA (neg:Bool) (ks:List Nat) (x y:Operand)
 |idxB (x y:Operand)
 |len (x:Operand)
 |lenS (x:Operand)
 |lenC (n:Nat)
 |slc (k:Nat) (x:Operand) (lo hi:Option Operand)
 |sstr (x:Operand) (lo hi:Option Operand)
 |nilc (x:Operand)
 |extract (x:Operand) (i:Nat)
 |build (z:List AV) (parts:List (Nat×Nat×Operand))
 |mkfn (f:FuncId) (caps:List Operand)
 |mm (mx:Bool) (x y:Operand)
 |box (x:Operand)
 |alloc (z:List AV)
 |bslice (k n:Nat) (z:List AV) (parts:List (Nat×Operand))
 |mk (k bytes:Nat) (z:List AV) (n:Operand)
 |call (f:Operand) (args:List Operand) (bor:List Nat)
 |store (k:Nat) (a x:Operand)
 |append (k bytes:Nat) (a x:Operand)
 |appendC (k bytes:Nat) (a x:Operand)
 |bsliceC (k n:Nat) (z:List AV) (parts:List (Nat×Operand))
 |clr (k:Nat) (z:List AV) (x:Operand)
 deriving Inhabited
def mH (h:Name->Option Blk):AV->Bool
 |.v x=>x.oneCell'
 |.sl _ _=>true
 |.ro _=>true
 |.fn _ _=>true
 |.loc n _ _=>match h n with|some (.arr _ _ _)=>true|_=>false
 |.ptr n _ _=>(h n).isSome
 |_=>false
def gM (h:Name->Option Blk):AV->Option (List AV)
 |.agg c=>if c.all (mH h) then some c else none
 |x=>if mH h x then some [x] else none
def AV.mk (g:Bool) (c:List AV):AV:=if g then .agg c else c.headD .junk
def Blk.row:Blk->Nat->List AV
 |.var c _,0=>c
 |.var _ _,_+1=>[]
 |.arr _ l _,e=>l.getD e []
def bJ (op:BinOp) (k:IntKind) (a b:Int):Int:=
 let x:=BitVec.ofInt k.bits a
 let y:=BitVec.ofInt k.bits b
 k.wrap (match op with|.and=>x &&& y|.or=>x ||| y|.xor=>x ^^^ y|_=>x &&& ~~~y).toNat
def aA9 (op:BinOp) (k k':IntKind) (a b:Int) (K:AV->Prop):Prop:=
 match op with
 |.add=>k=k'∧K (.v (.int k (k.wrap (a+b))))
 |.sub=>k=k'∧K (.v (.int k (k.wrap (a-b))))
 |.mul=>k=k'∧K (.v (.int k (k.wrap (a*b))))
 |.quo=>(k=k'∧b≠0)∧K (.v (.int k (k.wrap (a.tdiv b))))
 |.rem=>(k=k'∧b≠0)∧K (.v (.int k (a.tmod b)))
 |.eql=>k=k'∧K (.v (.bool (a==b)))
 |.neq=>k=k'∧K (.v (.bool (a != b)))
 |.lss=>k=k'∧K (.v (.bool (a<b)))
 |.leq=>k=k'∧K (.v (.bool (a<=b)))
 |.gtr=>k=k'∧K (.v (.bool (a>b)))
 |.geq=>k=k'∧K (.v (.bool (a≥b)))
 |.shl=>0<=b∧K (.v (.int k (k.wrap (a*2 ^ (min b.toNat k.bits)))))
 |.shr=>0<=b∧K (.v (.int k (a.fdiv (2 ^ (min b.toNat k.bits)))))
 |.and=>k=k'∧K (.v (.int k (bJ .and k a b)))
 |.or=>k=k'∧K (.v (.int k (bJ .or k a b)))
 |.xor=>k=k'∧K (.v (.int k (bJ .xor k a b)))
 |.andNot=>k=k'∧K (.v (.int k (bJ .andNot k a b)))
def vE (op:BinOp) (x y:ByteArray) (K:AV->Prop):Prop:=
 match op with
 |.add=>x.size+y.size<=9223372036854775807∧K (.v (.string (x++y)))
 |.eql=>K (.v (.bool (x.toList==y.toList)))
 |.neq=>K (.v (.bool (!(x.toList==y.toList))))
 |_=>False
def rG (op:BinOp) (x y:Bool) (K:AV->Prop):Prop:=
 match op with
 |.eql=>K (.v (.bool (x==y)))
 |.neq=>K (.v (.bool (!(x==y))))
 |_=>False
def lay:List AV->Nat->List AV->List AV
 |cs,_,[]=>cs
 |cs,o,x::r=>lay (cs.set o x) (o+1) r
def layAll (ev:Operand->AV) (h:Name->Option Blk):List AV->List (Nat×Nat×Operand)->(List AV->Prop)->Prop
 |cs,[],K=>K cs
 | cs,(o,n,x)::r,K=>match gM h (ev x) with
  |some c=>(c.length=n∧o+n<=cs.length)∧layAll ev h (lay cs o c) r K
  |none=>False
def eqV:Nat->Value->Value->Option Bool
 |0,.int k a,.int k' b=>if k=k' then some (a==b) else none
 |1,.bool a,.bool b=>some (a==b)
 |2,.string a,.string b=>some (a.toList==b.toList)
 |_,_,_=>none
def eqC:List Nat->List AV->List AV->Option Bool
 | [],[],[]=>some true
 | k::ks,.v x::r,.v y::s=>match eqV k x y,eqC ks r s with
  |some a,some b=>some (a&&b)
  |_,_=>none
 |_,_,_=>none
def kG (k:Nat) (h:Name->Option Blk):AV->Option (List (List AV))
 |.sl k' l=>if k'=k then some l else none
 | .loc n off len=>match h n with
  |some (.arr k' l _)=>if k'=k then some ((l.drop off).take len) else none
  |_=>none
 |.v (.slice none 0 0)=>some []
 |_=>none
inductive Tag {α:Type} (a:α):Type where
 |x
 |y
def Br (b:Bool) (A B:Prop) (_:Tag (A,B)):Prop:=(b=true->A)∧(b=false->B)
theorem aFx {A B:Prop}{t:Tag (A,B)}:Br true A B t↔A:=⟨λh=>h.1 rfl,λh=>⟨λ_=>h,λh=>(by cases h)⟩⟩
theorem aEP {A B:Prop}{t:Tag (A,B)}:Br false A B t↔B:=⟨λh=>h.2 rfl,λh=>⟨λh=>(by cases h),λ_=>h⟩⟩
theorem Br.mk {b:Bool}{A B:Prop}{t:Tag (A,B)} (h1:b=true->A) (h2:b=false->B):Br b A B t:=⟨h1,h2⟩
theorem Br.get {b:Bool}{A B:Prop}{t:Tag (A,B)} (h:Br b A B t):(b=true->A)∧(b=false->B):=h
def BrW (b want:Bool) (A B:Prop):Prop:=match want with
 |true=>Br b A B .x
 |false=>Br b B A .x
theorem gX {b want:Bool}{A B:Prop}:BrW b want A B↔(b=want->A)∧(b = !want->B):=by
 cases want
 .exact⟨λh=>⟨h.2,h.1⟩,λh=>⟨h.2,h.1⟩⟩
 .exact⟨λh=>⟨h.1,h.2⟩,λh=>⟨h.1,h.2⟩⟩
def mI:List (List AV)->Option (List Int)
 | []=>some []
 | [.v (.int .u8 n)]::r=>match mI r with
  |some l=>some (n::l)
  |none=>none
 |_=>none
def wK (s:ByteArray) (c:Int):Int:=match(List.range s.size).find? λi=>s[i]! == c.toNat.toUInt8 with
 |some i=>i
 |none=>-1
def kQ (ns:List Int):ByteArray:=⟨(ns.map λn=>UInt8.ofNat n.toNat).toArray⟩
def mG:AV->Bool
 |.v _=>true
 |_=>false
def rd (ev:Operand->AV) (h:Name->Option Blk) (K:AV->Prop):AOp->Prop
 |.mv x=>K (ev x)
 | .pick c a b=>match ev c with
  |.v (.bool t)=>Br t (K (ev a)) (K (ev b)) .x
  |_=>False
 | .load g k a=>match ev a with
  |.ro c=>k<=c.length∧K (.mk g (c.take k))
  | .ptr n e c=>match h n with
   |some b=>c+k<=(b.row e).length∧K (.mk g (((b.row e).drop c).take k))
   |none=>False
  |_=>False
 | .fieldAddr off x=>match ev x with
  | .ptr n e c=>match h n with
   |some _=>K (.ptr n e (c+off))
   |none=>False
  |.ro c=>off<=c.length∧K (.ro (c.drop off))
  |_=>False
 | .loadV g k a=>match ev a with
  | .ptr n e c=>match h n with
   |some (.var cs z)=>(c+k<=((Blk.var cs z).row e).length∧(!g||((((Blk.var cs z).row e).drop c).take k).all mG)=true)∧K (.mk g ((((Blk.var cs z).row e).drop c).take k))
   |_=>False
  |_=>False
 | .fieldV off x=>match ev x with
  | .ptr n e c=>match h n with
   |some (.var _ _)=>K (.ptr n e (c+off))
   |_=>False
  |_=>False
 | .field g off k x=>match ev x with
  |.agg c=>off+k<=c.length∧K (.mk g ((c.drop off).take k))
  |_=>False
 | .idxSl k x i=>match ev x,ev i with
  |.sl k' l,.v (.int _ i)=>(k'=k∧0<=i∧i<l.length)∧K (.ro (l.getD i.toNat []))
  | .loc n off len,.v (.int _ i)=>match h n with
   |some (.arr k' _ _)=>(k'=k∧0<=i∧i<len)∧K (.ptr n (off+i.toNat) 0)
   |_=>False
  |_,_=>False
 | .idxArr n k x i=>match ev x,ev i with
  |.ro c,.v (.int _ i)=>(0<=i∧i<n∧i.toNat*k<=c.length)∧K (.ro (c.drop (i.toNat*k)))
  | .ptr m e c,.v (.int _ i)=>match h m with
   |some _=>(0<=i∧i<n)∧K (.ptr m e (c+i.toNat*k))
   |none=>False
  |_,_=>False
 | .idxAgg g n k x i=>match ev x,ev i with
  |.agg c,.v (.int _ i)=>(0<=i∧i<n∧i.toNat*k+k<=c.length)∧K (.mk g ((c.drop (i.toNat*k)).take k))
  |_,_=>False
 | .idxStr x i=>match ev x,ev i with
  |.v (.string s),.v (.int _ i)=>(0<=i∧i<s.size)∧K (.v (.int .u8 (s.data.toList.getD i.toNat 0).toNat))
  |_,_=>False
 | .bin op x y=>match ev x,ev y with
  |.v (.int k a),.v (.int k' b)=>aA9 op k k' a b K
  |_,_=>False
 | .binS op x y=>match ev x,ev y with
  |.v (.string a),.v (.string b)=>vE op a b K
  |_,_=>False
 | .binB op x y=>match ev x,ev y with
  |.v (.bool a),.v (.bool b)=>rG op a b K
  |_,_=>False
 | .un op x=>match op,ev x with
  |.not,.v (.bool b)=>K (.v (.bool (!b)))
  |.neg,.v (.int k n)=>K (.v (.int k (k.wrap (0-n))))
  |.xor,.v (.int k n)=>K (.v (.int k (bJ .xor k (if k.signed then -1 else k.max) n)))
  |_,_=>False
 | .conv k x=>match ev x with
  |.v (.int _ n)=>K (.v (.int k (k.wrap n)))
  |_=>False
 | .len x=>match ev x with
  |.sl _ l=>K (.v (.int .i64 l.length))
  | .loc n _ len=>match h n with
   |some (.arr _ _ _)=>K (.v (.int .i64 len))
   |_=>False
  |.v (.slice _ n _)=>K (.v (.int .i64 n))
  |_=>False
 | .lenS x=>match ev x with
  |.v (.string s)=>K (.v (.int .i64 s.size))
  |_=>False
 |.lenC n=>K (.v (.int .i64 n))
 | .slc k x lo hi=>match ev x with
  | .sl k' l =>
   let f:Int->Int->Prop:=λlo hi=>(k'=k∧0<=lo∧lo<=hi∧hi<=l.length)∧K (.sl k ((l.take hi.toNat).drop lo.toNat))
   match lo.map ev,hi.map ev with
   |none,none=>f 0 l.length
   |some (.v (.int _ lo)),none=>f lo l.length
   |none,some (.v (.int _ hi))=>f 0 hi
   |some (.v (.int _ lo)),some (.v (.int _ hi))=>f lo hi
   |_,_=>False
  | .loc n off len=>match h n with
   | some (.arr k' _ _) =>
    let f:Int->Int->Prop:=λlo hi=>(k'=k∧0<=lo∧lo<=hi∧hi<=len)∧K (.loc n (off+lo.toNat) (hi-lo).toNat)
    match lo.map ev,hi.map ev with
    |none,none=>f 0 len
    |some (.v (.int _ lo)),none=>f lo len
    |none,some (.v (.int _ hi))=>f 0 hi
    |some (.v (.int _ lo)),some (.v (.int _ hi))=>f lo hi
    |_,_=>False
   |_=>False
  |_=>False
 | .sstr x lo hi=>match ev x with
  | .v (.string s) =>
   let f:Int->Int->Prop:=λlo hi=>(0<=lo∧lo<=hi∧hi<=s.size)∧K (.v (.string (s.extract lo.toNat hi.toNat)))
   match lo.map ev,hi.map ev with
   |none,none=>f 0 s.size
   |some (.v (.int _ lo)),none=>f lo s.size
   |none,some (.v (.int _ hi))=>f 0 hi
   |some (.v (.int _ lo)),some (.v (.int _ hi))=>f lo hi
   |_,_=>False
  |_=>False
 | .nilc x=>match ev x with
  |.ro c=>K (.ro c)
  | .ptr n e c=>match h n with
   |some _=>K (.ptr n e c)
   |none=>False
  |.fn f c=>K (.fn f c)
  |_=>False
 | .extract x i=>match ev x with
  |.tup c=>i<c.length∧K (c.getD i .junk)
  |_=>False
 |.build z parts=>layAll ev h z parts λcs=>K (.agg cs)
 |.mkfn f caps=>K (.fn f (caps.map ev))
 | .mm mx x y=>match ev x,ev y with
  |.v (.int k a),.v (.int _ b)=>K (.v (.int k (if mx then(if b>a then b else a) else(if b<a then b else a))))
  |_,_=>False
 | .b2s x=>match kG 1 h (ev x) with
  | some l=>match mI l with
   |some ns=>K (.v (.string (kQ ns)))
   |none=>False
  |none=>False
 | .eqA neg ks x y=>match ev x,ev y with
  | .agg c,.agg c'=>match eqC ks c c' with
   |some b=>K (.v (.bool (if neg then !b else b)))
   |none=>False
  |_,_=>False
 | .idxB x y=>match ev x,ev y with
  |.v (.string s),.v (.int .u8 c)=>K (.v (.int .i64 (wK s c)))
  |_,_=>False
 |.box _|.alloc _|.bslice .. | .mk .. | .call .. | .store .. | .append .. | .appendC .. | .bsliceC .. | .clr ..=>False
theorem aDy {ev:Operand->AV}{h:Name->Option Blk}{K:AV->Prop}{g:Bool}{k:Nat}{a:Operand} (hv:rd ev h K (.loadV g k a)):rd ev h K (.load g k a):=by
 simp only[rd] at hv
 split at hv
 .rename_i n e c hx
  split at hv
  .rename_i cs z hb
   simp only[rd,hx,hb];exact⟨hv.1.1,hv.2⟩
  .exact hv.elim
 .exact hv.elim
theorem aCI {ev:Operand->AV}{h:Name->Option Blk}{K:AV->Prop}{off:Nat}{x:Operand} (hv:rd ev h K (.fieldV off x)):rd ev h K (.fieldAddr off x):=by
 simp only[rd] at hv
 split at hv
 .rename_i n e c hx
  split at hv
  .rename_i cs z hb
   simp only[rd,hx,hb];exact hv
  .exact hv.elim
 .exact hv.elim
/-! ## resolving -/
def fO (P:Program) (t:TypeId):Option Nat:=(P.info? t).map (·.size)
def eT (P:Program) (t:TypeId):Option Bool:=
 match P.underlying t with
 |some (.struct _)|some (.array _ _)=>some true
 |some _=>some false
 |none=>none
def pV (P:Program) (t:TypeId):Option (Bool×Nat):=
 match eT P t,fO P t with
 |some true,some n=>some (true,n)
 |some false,some _=>some (false,1)
 |_,_=>none
theorem iU {P:Program}{t:TypeId}{b:Bool} (h:eT P t=some b) (w:World):(isAgg t).run P w=.ok b w:=by
 unfold eT at h
 unfold isAgg underlying
 cases hu:P.underlying t with
 |none=>simp[hu] at h
 |some d=>cases d<;>simp_all
theorem run_sizeOf {P:Program}{t:TypeId}{n:Nat} (h:fO P t=some n) (w:World):(sizeOf t).run P w=.ok n w:=by
 unfold fO at h
 unfold sizeOf typeInfo
 cases hi:P.info? t with
 |none=>simp[hi] at h
 |some i=>simp_all
theorem run_underlying {P:Program}{t:TypeId}{d:TypeDesc} (h:P.underlying t=some d) (w:World):(underlying t).run P w=.ok d w:=by
 unfold underlying;simp[h]
end
section
variable [Envs]
section inv
variable {S:Nat->Prop}{w:World}{ρ:Name->Option Nat}{κ:Name->Nat}{h:Name->Option Blk}{v:Value}
theorem aZ {x:Value} (hx:RV S w ρ κ h (.v x) v):v=x:=by
 cases hx with|clo hx=>cases hx;rfl
theorem qA {c:List AV} (hx:RV S w ρ κ h (.ro c) v):RC S w (.ro c) v:=by
 grind [RV]
theorem p8 {k:Nat}{l:List (List AV)} (hx:RV S w ρ κ h (.sl k l) v):RC S w (.sl k l) v:=by
 grind [RV]
theorem d9 {n:Name}{off len:Nat} (hx:RV S w ρ κ h (.loc n off len) v):rP ρ κ h n off len v:=by
 cases hx with
 |clo hx=>cases hx
 |loc _ _ _ _ hv=>exact hv
theorem bZ {n:Name}{e c:Nat} (hx:RV S w ρ κ h (.ptr n e c) v):zO ρ h n e c v:=by
 cases hx with
 |clo hx=>cases hx
 |ptr _ _ _ _ hv=>exact hv
theorem lC {c:List AV} (hx:RV S w ρ κ h (.agg c) v):∃vs,v=.agg vs∧c.length=vs.size∧∀j,j<c.length->RV S w ρ κ h (c.getD j .junk) (vs.getD j undef):=by
 cases hx with
 |clo hx=>cases hx with|agg _ vs hl hr=>exact⟨vs,rfl,hl,λj hj=>.clo (hr j hj)⟩
 |agg _ vs hl hr=>exact⟨vs,rfl,hl,hr⟩
theorem wJ {c:List AV} (hx:RV S w ρ κ h (.tup c) v):∃vs,v=.tuple vs∧c.length=vs.size∧∀j,j<c.length->RV S w ρ κ h (c.getD j .junk) (vs.getD j undef):=by
 cases hx with
 |clo hx=>cases hx with|tup _ vs hl hr=>exact⟨vs,rfl,hl,λj hj=>.clo (hr j hj)⟩
 |tup _ vs hl hr=>exact⟨vs,rfl,hl,hr⟩
theorem xN {f:FuncId}{c:List AV} (hx:RV S w ρ κ h (.fn f c) v):∃vs,v=.func (.func f) #[] vs∧c.length=vs.size∧∀j,j<c.length->RV S w ρ κ h (c.getD j .junk) (vs.getD j undef):=by
 cases hx with
 |clo hx=>cases hx with|fn _ _ vs hl hr=>exact⟨vs,rfl,hl,λj hj=>.clo (hr j hj)⟩
 |fn _ _ vs hl hr=>exact⟨vs,rfl,hl,hr⟩
end inv
theorem cell_of_row {w:World}{x off:Nat}{cs:Array Value}{T:TypeId}{fr:Nat×Nat} (hx:w.heap[x]? = some (.cells cs T fr)) (ho:off<cs.size) :
  w.cell? ⟨x,off,none⟩=some (cs.getD off undef):=by
 simp[World.cell?,hx,ho]
theorem addr_add (x off j:Nat):(⟨x,off,none⟩:Addr).add j=⟨x,off+j,none⟩:=by
 grind [Addr.add]
theorem HOK.cells {S:Nat->Prop}{w:World}{ρ:Name->Option Nat}{κ:Name->Nat}{h:Name->Option Blk} (hok:HOK S w ρ κ h) {n:Name}{b:Blk} (hb:h n=some b)
  {x:Nat} (hx:ρ n=some x) {e j:Nat} (hj:j<(b.row e).length) :
  ∃u,w.cell? ⟨x,e*b.k+j,none⟩=some u∧u.oneCell'=true∧RV S w ρ κ h ((b.row e).getD j .junk) u:=by
 have hk:=hok.blk n b hb
 cases b with
 | var c z =>
  obtain⟨y,cs,T,fr,h1,h2,_,_,_,_,h6,h7⟩:=hk
  obtain rfl:=Option.some.inj (h1.symm.trans hx)
  cases e with
  | zero =>
   grind [Blk.row,cell_of_row]
  |succ e=>simp[Blk.row] at hj
 | arr k l z =>
  obtain⟨h0,⟨h1,h2⟩|⟨y,cs,T,fr,h1,h2,_,_,_,_,h6,h7⟩⟩:=hk
  .rw[h1] at hx;cases hx
  .obtain rfl:=Option.some.inj (h1.symm.trans hx)
   simp only[Blk.row,Blk.k] at hj⊢
   have he:e<l.length:=by
    grind
   have hjk:j<k:=by rw[←h0 e he];exact hj
   have:e*k+j<cs.size:=by
    have:(e+1)*k<=l.length*k:=Nat.mul_le_mul_right k he
    rw[Nat.succ_mul] at this;omega
   all_goals grind [cell_of_row,RV]
theorem tZ {P:Program}{T:TypeId}{k:Nat} (h:pV P T=some (false,k)):k=1:=by
 grind [pV]
theorem vN {P:Program}{T:TypeId}{g:Bool}{k:Nat} (hl:pV P T=some (g,k)) {w:World}{x off:Nat} (f:Nat->Value)
  (hf:∀j,j<k->w.cell? ⟨x,off+j,none⟩=some (f j)) :
  (loadVar T ⟨x,off,none⟩).run P w=.ok (if g then .agg ((List.range k).map f).toArray else f 0) w:=by
 unfold pV at hl
 split at hl
 .rename_i n h1 h2
  simp only[Option.some.injEq,Prod.mk.injEq] at hl
  obtain⟨rfl,rfl⟩:=hl
  simp[loadVar,iU h1,run_sizeOf h2,run_loadCells w ⟨x,off,none⟩ n f (λj hj=>by rw[addr_add];exact hf j hj)]
 .rename_i n h1 h2
  simp only[Option.some.injEq,Prod.mk.injEq] at hl
  obtain⟨rfl,rfl⟩:=hl
  have:=hf 0 (by omega)
  simp only[Nat.add_zero] at this
  simp[loadVar,iU h1,this]
 .cases hl
theorem aBS {S:Nat->Prop}{w:World}{ρ:Name->Option Nat}{κ:Name->Nat}{h:Name->Option Blk}{g:Bool}{k:Nat}{c:List AV}{f:Nat->Value} (hk:g=false->k=1)
  (hc:c.length=k) (hr:∀j,j<k->RV S w ρ κ h (c.getD j .junk) (f j)):RV S w ρ κ h (.mk g c) (if g then .agg ((List.range k).map f).toArray else f 0):=by
 cases g with
 | true =>
  simp only[AV.mk,if_true]
  refine .agg _ _ (by simp[hc]) λj hj=>?_
  have:((List.range k).map f).toArray.getD j undef=f j:=by
   have:j<k:=by omega
   simp[this]
  rw[this]
  exact hr j (by omega)
 | false =>
  obtain rfl:=hk rfl
  have:=hr 0 (by omega)
  match c,hc with
  | [x],_=>simpa[AV.mk] using this
def Ans (P:Program) (S:Nat->Prop) (w:World) (ρ:Name->Option Nat) (κ:Name->Nat) (h:Name->Option Blk) (K:AV->Prop) (s:Sem Value):Prop:=
 ∃x v,K x∧s.run P w=.ok v w∧RV S w ρ κ h x v
variable {P:Program}{C:Ctx}{σ:FSt}{a:Act}{w:World}{S:Nat->Prop}{ρ:Name->Option Nat}{κ:Name->Nat}{K:AV->Prop}
theorem aBW (hok:OK C σ a w S ρ κ) {T:TypeId}{g:Bool}{k:Nat} (hl:pV P T=some (g,k)) {x:Operand} (hv:rd (evO σ.s) σ.h K (.load g k x)) :
  Ans P S w ρ κ σ.h K (Instr.loadAt T (a.eval x)):=by
 have hx:=hok.ev x
 generalize a.eval x=va at hx⊢
 simp only[rd] at hv
 split at hv
 .rename_i c hc
  rw[hc] at hx
  obtain⟨hk,hK⟩:=hv
  cases qA hx with
  | ro _ b off xs hS hcell ho hr =>
   refine⟨_,_,hK,by simp only[Instr.loadAt,Instr.sureAddr,Sem.run_bind,Sem.run_pure,Result.andThen_ok];exact vN hl xs (λj hj=>hcell j (by omega)),?_⟩
   refine aBS (λhg=>tZ (hg ▸ hl)) (by simp;omega) λj hj=>?_
   have e:(c.take k).getD j .junk=c.getD j .junk:=by simp[List.getD,hj]
   rw[e]
   exact .clo (hr j (by omega))
 .rename_i n e c hc
  rw[hc] at hx
  split at hv
  .rename_i b hb
   obtain⟨hk,hK⟩:=hv
   obtain⟨y,hy,hva⟩:=bZ hx b hb
   have hcells:=λj (hj:j<(b.row e).length)=>hok.hok.cells hb hy (e:=e) (j:=j) hj
   let f:Nat->Value:=λj=>(w.cell? ⟨y,e*b.k+c+j,none⟩).getD undef
   have hf:∀j,j<k->w.cell? ⟨y,e*b.k+c+j,none⟩=some (f j):=λj hj=>by
    obtain⟨u,hu,_⟩:=hcells (c+j) (by omega)
    all_goals grind
   refine⟨_,_,hK,by subst hva;simp only[Instr.loadAt,Instr.sureAddr,Sem.run_bind,Sem.run_pure,Result.andThen_ok];exact vN hl f hf,?_⟩
   refine aBS (λhg=>tZ (hg ▸ hl)) (by simp;omega) λj hj=>?_
   all_goals grind
  .exact hv.elim
 .exact hv.elim
theorem aBV {c:List AV}{v:Value}{off:Nat} (ho:off<=c.length) (h:RC S w (.ro c) v):∃x o,v=.pointer (some ⟨x,o,none⟩)∧RC S w (.ro (c.drop off)) (.pointer (some ⟨x,o+off,none⟩)):=by
 cases h with
 | ro _ x o xs hS hc hone hr =>
  refine⟨x,o,rfl,.ro _ x (o+off) (λj=>xs (off+j)) hS (λj hj=>?_) (λj hj=>hone _ (by simp at hj;omega)) λj hj=>?_⟩
  all_goals grind
def oQ (P:Program) (s:TypeId) (i:Nat):Option Field:=
 match P.underlying s with
 |some (.struct fs)=>fs[i]?
 |_=>none
theorem zR (hok:OK C σ a w S ρ κ) {s:TypeId}{i:Nat}{f:Field}{n:Nat} (hf:oQ P s i=some f) (hn:fO P f.type=some n) (h0:n≠0) {x:Operand}
  (hv:rd (evO σ.s) σ.h K (.fieldAddr f.offset x)):Ans P S w ρ κ σ.h K (Instr.fieldAt s (a.eval x) i):=by
 have hx:=hok.ev x
 have hrun:∀b o,(Instr.fieldAt s (.pointer (some ⟨b,o,none⟩)) i).run P w=.ok (.pointer (some ⟨b,o+f.offset,none⟩)) w:=by
  intro b o
  unfold oQ at hf
  split at hf
  .rename_i fs hu
   simp[Instr.fieldAt,run_underlying hu,hf,Instr.sureAddr,fieldPlace,run_sizeOf hn,h0,addr_add]
  .cases hf
 generalize a.eval x=va at hx⊢
 simp only[rd] at hv
 split at hv
 .rename_i m e c hc
  rw[hc] at hx
  split at hv
  .rename_i b hb
   obtain⟨y,hy,rfl⟩:=bZ hx b hb
   refine⟨_,_,hv,hrun _ _,.ptr _ _ _ _ λb' hb'=>?_⟩
   all_goals grind
  .exact hv.elim
 .rename_i c hc
  rw[hc] at hx
  obtain⟨y,o,rfl,hr⟩:=aBV hv.1 (qA hx)
  exact⟨_,_,hv.2,hrun _ _,.clo hr⟩
 .exact hv.elim
theorem aDA (hok:OK C σ a w S ρ κ) {s:TypeId}{i:Nat}{f:Field}{n:Nat}{g:Bool} (hf:oQ P s i=some f) (hn:fO P f.type=some n) (hg:eT P f.type=some g) (h1:g=false->n=1)
  {x:Operand} (hv:rd (evO σ.s) σ.h K (.field g f.offset n x)):Ans P S w ρ κ σ.h K (Instr.field s (a.eval x) i):=by
 have hx:=hok.ev x
 generalize a.eval x=va at hx⊢
 simp only[rd] at hv
 split at hv
 .rename_i c hc
  rw[hc] at hx
  obtain⟨vs,rfl,hl,hr⟩:=lC hx
  unfold oQ at hf
  split at hf
  .rename_i fs hu
   obtain⟨hk,hK⟩:=hv
   refine⟨_,(if g then .agg ((List.range n).map λj=>vs.getD (f.offset+j) undef).toArray else vs.getD (f.offset+0) undef),hK,?_,?_⟩
   .cases g with
    | true =>
     simp only[Instr.field,Sem.run_bind,run_underlying hu,Result.andThen_ok,hf,asAgg,Sem.run_pure,part,iU hg,if_true,run_sizeOf hn]
     congr 2
     apply Array.ext (by simp;omega)
     intro j h1 h2
     simp at h1 h2
     simp[show f.offset+j<vs.size by omega]
    | false =>
     have:=h1 rfl
     simp[Instr.field,run_underlying hu,hf,asAgg,part,iU hg,show f.offset<vs.size by omega]
   .refine aBS h1 (by simp;omega) λj hj=>?_
    all_goals grind
  .cases hf
 .exact hv.elim
theorem aF2 {k:Nat}{l:List (List AV)}{v:Value} (h:RC S w (.sl k l) v) {i:Nat} (hi:i<l.length) :
  ∃x off cap,v=.slice (some ⟨x,off,none⟩) l.length cap∧RC S w (.ro (l.getD i [])) (.pointer (some ⟨x,off+i*k,none⟩)):=by
 cases h with
 | sl _ _ base cap x off xs hb hc ho hr hk hcap =>
  have hne:l≠[]:=by rintro rfl;simp at hi
  obtain⟨rfl,hS⟩:=hb hne
  refine⟨x,off,cap,rfl,.ro _ x _ (λj=>xs (i*k+j)) hS (λj hj=>?_) (λj hj=>ho i j hi (by rw[←hk i hi];exact hj)) λj hj=>hr i j hi (by rw[←hk i hi];exact hj)⟩
  all_goals grind
theorem aDz (hok:OK C σ a w S ρ κ) {t e:TypeId}{k:Nat} (hu:P.underlying t=some (.slice e)) (hk:fO P e=some k) {x i:Operand}
  (hv:rd (evO σ.s) σ.h K (.idxSl k x i)):Ans P S w ρ κ σ.h K (Instr.indexAt t (a.eval x) (a.eval i)):=by
 have hx:=hok.ev x
 have hi:=hok.ev i
 generalize a.eval x=va at hx⊢
 generalize a.eval i=vi at hi⊢
 simp only[rd] at hv
 split at hv
 .rename_i k' l kk n hc hn
  rw[hc] at hx;rw[hn] at hi
  obtain rfl:=aZ hi
  obtain⟨⟨rfl,h0,h1⟩,hK⟩:=hv
  obtain⟨y,off,cap,rfl,hr⟩:=aF2 (p8 hx) (i:=n.toNat) (by omega)
  refine⟨_,_,hK,?_,.clo hr⟩
  simp[Instr.indexAt,asIntOf,run_underlying hu,run_sizeOf hk,h0,h1,addr_add]
 .rename_i m off len kk n hc hn
  rw[hc] at hx;rw[hn] at hi
  obtain rfl:=aZ hi
  split at hv
  .rename_i k' l z hb
   obtain⟨⟨rfl,h0,h1⟩,hK⟩:=hv
   obtain⟨hle,base,cap,rfl,_,_,hbase,_⟩:=d9 hx _ _ _ hb
   obtain⟨y,hy,rfl⟩:=hbase (by omega)
   refine⟨_,.pointer (some ⟨y,off*k'+n.toNat*k',none⟩),hK,?_,.ptr _ _ _ _ λb' hb'=>?_⟩
   .simp[Instr.indexAt,asIntOf,run_underlying hu,run_sizeOf hk,h0,h1,addr_add]
   all_goals grind [Blk.k]
  .exact hv.elim
 .exact hv.elim
theorem aCG (hok:OK C σ a w S ρ κ) {t e:TypeId}{n k:Nat} (hu:P.underlying t=some (.array n e)) (hk:fO P e=some k) {x i:Operand}
  (hv:rd (evO σ.s) σ.h K (.idxArr n k x i)):Ans P S w ρ κ σ.h K (Instr.indexAt t (a.eval x) (a.eval i)):=by
 have hx:=hok.ev x
 have hi:=hok.ev i
 generalize a.eval x=va at hx⊢
 generalize a.eval i=vi at hi⊢
 simp only[rd] at hv
 split at hv
 .rename_i c kk m hc hn
  rw[hc] at hx;rw[hn] at hi
  obtain rfl:=aZ hi
  obtain⟨⟨h0,h1,h2⟩,hK⟩:=hv
  obtain⟨y,o,rfl,hr⟩:=aBV h2 (qA hx)
  refine⟨_,_,hK,?_,.clo hr⟩
  simp[Instr.indexAt,asIntOf,run_underlying hu,run_sizeOf hk,h0,h1,addr_add,Instr.sureAddr]
 .rename_i nm e' c kk m hc hn
  rw[hc] at hx;rw[hn] at hi
  obtain rfl:=aZ hi
  split at hv
  .rename_i b hb
   obtain⟨⟨h0,h1⟩,hK⟩:=hv
   obtain⟨y,hy,rfl⟩:=bZ hx b hb
   refine⟨_,.pointer (some ⟨y,e'*b.k+c+m.toNat*k,none⟩),hK,?_,.ptr _ _ _ _ λb' hb'=>?_⟩
   .simp[Instr.indexAt,asIntOf,run_underlying hu,run_sizeOf hk,h0,h1,addr_add,Instr.sureAddr]
   all_goals grind
  .exact hv.elim
 .exact hv.elim
theorem aCH (hok:OK C σ a w S ρ κ) {t e:TypeId}{n k:Nat}{g:Bool} (hu:P.underlying t=some (.array n e)) (hk:fO P e=some k) (hg:eT P e=some g) (hg1:g=false->k=1) {x i:Operand}
  (hv:rd (evO σ.s) σ.h K (.idxAgg g n k x i)):Ans P S w ρ κ σ.h K (Instr.index t (a.eval x) (a.eval i)):=by
 have hx:=hok.ev x
 have hi:=hok.ev i
 generalize a.eval x=va at hx⊢
 generalize a.eval i=vi at hi⊢
 simp only[rd] at hv
 split at hv
 .rename_i c kk m hc hn
  rw[hc] at hx;rw[hn] at hi
  obtain rfl:=aZ hi
  obtain⟨⟨h0,h1,h2⟩,hK⟩:=hv
  obtain⟨vs,rfl,hl,hr⟩:=lC hx
  refine⟨_,(if g then .agg ((List.range k).map λj=>vs.getD (m.toNat*k+j) undef).toArray else vs.getD (m.toNat*k+0) undef),hK,?_,?_⟩
  .cases g with
   | true =>
    simp only[Instr.index,asIntOf,Sem.run_bind,Sem.run_pure,run_underlying hu,Result.andThen_ok,h0,h1,and_self,if_true,run_sizeOf hk,part,iU hg]
    congr 2
    apply Array.ext (by simp;omega)
    intro j h1 h2
    simp at h1 h2
    simp[show m.toNat*k+j<vs.size by omega]
   | false =>
    have:=hg1 rfl
    subst this
    have:vs[m.toNat]? = some (vs.getD m.toNat undef):=by simp[show m.toNat<vs.size by omega]
    simp[Instr.index,asIntOf,run_underlying hu,h0,h1,run_sizeOf hk,part,iU hg,show m.toNat<vs.size by omega]
  .refine aBS hg1 (by simp;omega) λj hj=>?_
   all_goals grind
 .exact hv.elim
theorem aCF (hok:OK C σ a w S ρ κ) {t:TypeId} (hu:P.underlying t=some .string) {x i:Operand}
  (hv:rd (evO σ.s) σ.h K (.idxStr x i)):Ans P S w ρ κ σ.h K (Instr.index t (a.eval x) (a.eval i)):=by
 have hx:=hok.ev x
 have hi:=hok.ev i
 generalize a.eval x=va at hx⊢
 generalize a.eval i=vi at hi⊢
 simp only[rd] at hv
 split at hv
 .rename_i s kk m hc hn
  rw[hc] at hx;rw[hn] at hi
  obtain rfl:=aZ hi
  obtain rfl:=aZ hx
  obtain⟨⟨h0,h1⟩,hK⟩:=hv
  refine⟨_,_,hK,?_,.clo (.v _)⟩
  have hlt:m.toNat<s.size:=by omega
  have e:s[m.toNat]? = some (s.data.toList.getD m.toNat 0):=by
   have:m.toNat<s.data.size:=hlt
   rw[getElem?_pos s m.toNat hlt]
   simp
   rw[getElem?_pos s.data m.toNat this]
   rfl
  simp[Instr.index,asIntOf,run_underlying hu,h0,e]
 .exact hv.elim
end
end Go.Vs
