/- A name is forgotten; append. -/
import Derived.Calls
import Derived.Orders
import Derived.Still
import Derived.Laws.Sem
import Derived.Lib.ItoaNum
import Derived.Laws.Cells
import Derived.Laws.Slices
import GoSem.Dispatch
import Derived.Laws.StructEq
import Derived.Laws.World
import Derived.Laws.MakeOwn
import Derived.Laws.Append
import Derived.Laws.AppendOwn
set_option linter.all false
set_option maxHeartbeats 8000000
namespace Go
theorem A7:type_of% @List.getElem?_cons_zero:=rfl
theorem A8:type_of% @Bool.false_eq_true:=@Bool.false_eq_true
theorem A9:type_of% @List.length_singleton:=rfl
theorem AA:type_of% @List.append_nil:=@List.append_nil
theorem AB:type_of% @List.getD_cons_succ:=@List.getD_cons_succ
theorem AC:type_of% @List.length_append:=@List.length_append
theorem AJ:type_of% @if_neg:=@if_neg
theorem AL:type_of% @Nat.le_refl:=@Nat.le_refl
theorem AO:type_of% @List.flatMap_cons:=@List.flatMap_cons
theorem AP:type_of% @List.flatMap_nil:=@List.flatMap_nil
theorem AQ:type_of% @Option.isSome_iff_exists:=@Option.isSome_iff_exists
theorem AR:type_of% @decide_eq_true:=@decide_eq_true
theorem AU:type_of% @List.map_cons:=@List.map_cons
theorem AX:type_of% @decide_eq_false:=@decide_eq_false
theorem AY:type_of% @if_pos:=@if_pos
theorem AZ:type_of% @Prod.mk.injEq:=@Prod.mk.injEq
theorem Aa:type_of% @List.length_cons:=rfl
theorem Ab:type_of% @List.length_nil:=rfl
theorem Ac:type_of% @List.set_cons_zero:=rfl
theorem Ad:type_of% @List.cons_append:=rfl
theorem Ae:type_of% @List.set_cons_succ:=rfl
theorem Af{α:Type _}(as:List α):[]++as=as:=rfl
theorem Ag:type_of% @List.take_of_length_le:=@List.take_of_length_le
theorem Ah:type_of% @List.replicate_zero:=rfl
theorem Ai:type_of% @List.replicate_succ:=rfl
theorem Aj:type_of% @Option.some.injEq:=@Option.some.injEq
theorem Ak:type_of% @List.getD_cons_zero:=@List.getD_cons_zero
theorem Al:type_of% @List.flatten_cons:=rfl
theorem Am:type_of% @List.getElem_mem:=@List.getElem_mem
theorem Ao:type_of% @List.length_set:=@List.length_set
theorem Ap:type_of% @beq_eq_false_iff_ne:=@beq_eq_false_iff_ne
theorem Aq:type_of% @List.flatten_nil:=rfl
theorem Ar:type_of% @List.mem_singleton:=@List.mem_singleton
theorem Au:type_of% @Bool.and_eq_true:=@Bool.and_eq_true
theorem Av:type_of% @Option.some.inj:=@Option.some.inj
theorem Aw:type_of% @List.all_eq_true:=@List.all_eq_true
theorem Ay:type_of% @List.mem_cons:=@List.mem_cons
theorem Az:type_of% @List.not_mem_nil:=@List.not_mem_nil
theorem BA:type_of% @Nat.mul_le_mul_right:=@Nat.mul_le_mul_right
theorem BB:type_of% @List.getElem?_append_left:=@List.getElem?_append_left
theorem BC:type_of% @List.length_map:=@List.length_map
theorem BF:type_of% @Nat.zero_add:=@Nat.zero_add
theorem BG:type_of% @List.mem_map:=@List.mem_map
theorem BH:type_of% @decide_eq_false_iff_not:=@decide_eq_false_iff_not
theorem BI:type_of% @List.mem_range:=@List.mem_range
theorem BJ:type_of% @Nat.le_trans:=@Nat.le_trans
theorem BK:type_of% @Array.length_toList:=rfl
theorem BM:type_of% @List.mem_iff_getElem?:=@List.mem_iff_getElem?
theorem BN:type_of% @List.mem_filter:=@List.mem_filter
theorem BO:type_of% @List.all_cons:=rfl
theorem BP:type_of% @Bool.not_true:=@Bool.not_true
theorem BQ:type_of% @List.getElem?_map:=@List.getElem?_map
theorem BR:type_of% @Nat.lt_of_lt_of_le:=@Nat.lt_of_lt_of_le
theorem BS:type_of% @Option.getD_some:=rfl
theorem BU:type_of% @List.mem_of_getElem?:=@List.mem_of_getElem?
theorem BV:type_of% @List.mem_append_left:=@List.mem_append_left
theorem BX:type_of% @Nat.zero_le:=@Nat.zero_le
theorem BZ:type_of% @List.length_pos_iff:=@List.length_pos_iff
theorem Ba{α:Type _}{β:Type _}(a:α)(f:α->β):(some a).map f=some (f a):=rfl
theorem Bb:type_of% @decide_eq_true_eq:=@decide_eq_true_eq
theorem Bc:type_of% @List.getD_eq_getElem?_getD:=@List.getD_eq_getElem?_getD
theorem Bd:type_of% @congrArg:=@congrArg
theorem Be:type_of% @List.mem_append:=@List.mem_append
theorem Bf:type_of% @List.getElem?_eq_getElem:=@List.getElem?_eq_getElem
theorem Bg:type_of% @if_false:=@if_false
theorem Bh:type_of% @List.map_nil:=@List.map_nil
theorem Bi:type_of% @List.getElem?_cons_succ:=rfl
theorem Bj:type_of% @beq_iff_eq:=@beq_iff_eq
theorem Bl:type_of% @List.eq_nil_of_length_eq_zero:=@List.eq_nil_of_length_eq_zero
theorem Bn:type_of% @List.drop_eq_getElem_cons:=@List.drop_eq_getElem_cons
theorem Bo:type_of% @or_false:=@or_false
theorem Bp:type_of% @List.append_assoc:=@List.append_assoc
theorem Bq:type_of% @false_or:=@false_or
theorem Bt:type_of% @if_true:=@if_true
theorem Bu:type_of% @List.pairwise_append:=@List.pairwise_append
theorem Bv:type_of% @List.getElem?_append_right:=@List.getElem?_append_right
theorem Bw(n:Nat):(n:Int).toNat=n:=rfl
theorem Bz:type_of% @Bool.not_eq_true':=@Bool.not_eq_true'
theorem C8:type_of% @List.map_toArray:=@List.map_toArray
theorem C9:type_of% @Nat.sub_self:=@Nat.sub_self
theorem CB:type_of% @of_decide_eq_false:=@of_decide_eq_false
theorem CE:type_of% @List.pairwise_cons:=@List.pairwise_cons
theorem CG:type_of% @Array.getElem?_append:=@Array.getElem?_append
theorem CJ:type_of% @List.mem_or_eq_of_mem_set:=@List.mem_or_eq_of_mem_set
theorem CL:type_of% @List.getElem?_eq_some_iff:=@List.getElem?_eq_some_iff
theorem CQ:type_of% @List.mem_of_mem_take:=@List.mem_of_mem_take
theorem CU:type_of% @List.mem_of_mem_drop:=@List.mem_of_mem_drop
theorem CV:type_of% @List.contains_eq_mem:=@List.contains_eq_mem
theorem CW:type_of% @List.map_drop:=@List.map_drop
theorem CX:type_of% @Bool.true_and:=@Bool.true_and
theorem CY:type_of% @Array.getElem?_setIfInBounds_ne:=@Array.getElem?_setIfInBounds_ne
theorem CZ:type_of% @List.take_zero:=rfl
theorem Ca:type_of% @Option.bind_eq_some_iff:=@Option.bind_eq_some_iff
theorem Cb:type_of% @Bool.not_false:=@Bool.not_false
theorem Cc:type_of% @Array.getElem?_eq_some_iff:=@Array.getElem?_eq_some_iff
theorem Ce:type_of% @List.take_length:=@List.take_length
theorem Cf:type_of% @List.length_drop:=@List.length_drop
theorem Cg(n:Nat):n+0=n:=rfl
theorem Ch:type_of% @List.length_take:=@List.length_take
theorem Ci:type_of% @true_and:=@true_and
theorem Cj:type_of% @List.take_append_drop:=@List.take_append_drop
theorem Ck:type_of% @Nat.succ_mul:=@Nat.succ_mul
theorem Cm:type_of% @List.map_append:=@List.map_append
theorem Cn:type_of% @Bool.or_eq_true:=@Bool.or_eq_true
theorem Co{α:Type _}{β:Type _}(a:α)(f:α->Option β):(some a).bind f=f a:=rfl
theorem Cq:type_of% @Nat.le_of_ble_eq_true:=@Nat.le_of_ble_eq_true
theorem Cr:type_of% @List.getElem?_eq_none:=@List.getElem?_eq_none
theorem Cs:type_of% @List.drop_length:=@List.drop_length
theorem Ct:type_of% @List.mem_iff_getElem:=@List.mem_iff_getElem
theorem Cu:type_of% @of_decide_eq_true:=@of_decide_eq_true
theorem Cv:type_of% @Option.map_eq_some_iff:=@Option.map_eq_some_iff
theorem Cw:type_of% @Nat.lt_or_ge:=@Nat.lt_or_ge
theorem Cx:type_of% @List.length_pos_of_mem:=@List.length_pos_of_mem
theorem Cy:type_of% @Nat.add_assoc:=@Nat.add_assoc
theorem Cz:type_of% @List.map_take:=@List.map_take
theorem DC:type_of% @List.filter_cons:=@List.filter_cons
theorem DI:type_of% @List.nodup_cons:=@List.nodup_cons
theorem DJ:type_of% @List.drop_succ_cons:=@List.drop_succ_cons
theorem DL:type_of% @Ne.symm:=@Ne.symm
theorem Da:type_of% @List.mem_cons_self:=@List.mem_cons_self
theorem Db:type_of% @List.map_set:=@List.map_set
theorem Dc:type_of% @List.Perm.append_right:=@List.Perm.append_right
theorem De:type_of% @Bool.false_or:=@Bool.false_or
theorem Df:type_of% @List.mem_append_right:=@List.mem_append_right
theorem Dg:type_of% @List.length_replicate:=@List.length_replicate
theorem Dh:type_of% @List.mem_cons_of_mem:=@List.mem_cons_of_mem
theorem Di:type_of% @List.drop_zero:=@List.drop_zero
theorem Dj:type_of% @beq_self_eq_true:=@beq_self_eq_true
theorem Dk:type_of% @List.take_succ_cons:=rfl
theorem Dm:type_of% @List.mem_flatMap:=@List.mem_flatMap
theorem Dn:type_of% @List.rel_of_pairwise_cons:=@List.rel_of_pairwise_cons
theorem Dp:type_of% @List.pairwise_iff_getElem:=@List.pairwise_iff_getElem
theorem Dr:type_of% @Nat.lt_irrefl:=@Nat.lt_irrefl
theorem Dt:type_of% @List.range_succ:=@List.range_succ
theorem Du:type_of% @Nat.add_mul:=@Nat.add_mul
theorem Dv:type_of% @Option.none_or:=rfl
theorem Dw:type_of% @List.all_nil:=rfl
theorem Dx:type_of% @List.mem_range'_1:=@List.mem_range'_1
theorem Dy:type_of% @Bool.false_and:=@Bool.false_and
theorem Dz:type_of% @List.set_append_right:=@List.set_append_right
end Go
namespace Go.Vs
section
class Envs where
 l:List (Nat×(Option Obj->Prop))
def envs [Envs]:List (Nat×(Option Obj->Prop)):=Envs.l
end
section
variable [Envs]
inductive Name where
 |b (j:Nat)
 |t (slot j:Nat)
 deriving DecidableEq
inductive AV where
 |v (x:Value)
 |sl (k:Nat) (l:List (List AV))
 |ro (c:List AV)
 |loc (n:Name) (off len:Nat)
 |ptr (n:Name) (e c:Nat)
 |fn (f:FuncId) (caps:List AV)
 |agg (c:List AV)
 |tup (c:List AV)
 |junk
 deriving Inhabited
inductive Blk where
 |var (c:List AV) (fz:Bool)
 |arr (k:Nat) (l:List (List AV)) (fz:Bool)
def Blk.k:Blk->Nat
 |.var _ _=>0
 |.arr k _ _=>k
def Blk.fz:Blk->Bool
 |.var _ z=>z
 |.arr _ _ z=>z
def Blk.same:Blk->Blk->Prop
 |.var c _,.var c' _=>c.length=c'.length
 |.arr k l _,.arr k' l' _=>k=k'∧l.length=l'.length
 |_,_=>False
theorem Blk.same_refl (b:Blk):b.same b:=by cases b<;>simp[Blk.same]
theorem Blk.same_trans {a b c:Blk} (h:a.same b) (h':b.same c):a.same c:=by
 grind [Blk.same,Blk]
theorem Blk.same_k {a b:Blk} (h:a.same b):a.k=b.k:=by
 grind [Blk.same,Blk.k,Blk]
inductive RC (S:Nat->Prop) (w:World):AV->Value->Prop
 |v (x:Value):RC S w (.v x) x
 | sl (k:Nat) (l:List (List AV)) (base:Option Addr) (cap x off:Nat) (xs:Nat->Value)
   (hb:l≠[]->base=some ⟨x,off,none⟩∧S x)
   (hc:∀i j,i<l.length->j<k->w.cell? ⟨x,off+(i*k+j),none⟩=some (xs (i*k+j)))
   (ho:∀i j,i<l.length->j<k->(xs (i*k+j)).oneCell'=true)
   (hr:∀i j,i<l.length->j<k->RC S w ((l.getD i []).getD j .junk) (xs (i*k+j)))
   (hk:∀i,i<l.length->(l.getD i []).length=k)
   (hcap:l.length<=cap∧cap<2 ^ 63):RC S w (.sl k l) (.slice base l.length cap)
 | ro (c:List AV) (x off:Nat) (xs:Nat->Value) (hS:S x)
   (hc:∀j,j<c.length->w.cell? ⟨x,off+j,none⟩=some (xs j))
   (ho:∀j,j<c.length->(xs j).oneCell'=true)
   (hr:∀j,j<c.length->RC S w (c.getD j .junk) (xs j)):RC S w (.ro c) (.pointer (some ⟨x,off,none⟩))
 | fn (f:FuncId) (c:List AV) (vs:Array Value) (hl:c.length=vs.size)
   (hr:∀j,j<c.length->RC S w (c.getD j .junk) (vs.getD j undef)):RC S w (.fn f c) (.func (.func f) #[] vs)
 | agg (c:List AV) (vs:Array Value) (hl:c.length=vs.size)
   (hr:∀j,j<c.length->RC S w (c.getD j .junk) (vs.getD j undef)):RC S w (.agg c) (.agg vs)
 | tup (c:List AV) (vs:Array Value) (hl:c.length=vs.size)
   (hr:∀j,j<c.length->RC S w (c.getD j .junk) (vs.getD j undef)):RC S w (.tup c) (.tuple vs)
theorem cell?_of_block {w w':World}{b off:Nat} (h:w'.heap[b]? = w.heap[b]?):w'.cell? ⟨b,off,none⟩=w.cell? ⟨b,off,none⟩:=by
 simp[World.cell?,h]
theorem RC.mono {S S':Nat->Prop}{w w':World} (G:∀b,S b->S' b) (H:∀b,S b->w'.heap[b]? = w.heap[b]?) {x:AV}{v:Value} (h:RC S w x v):RC S' w' x v:=by
 induction h with
 |v x=>exact .v x
 | sl k l base cap x off xs hb hc ho hr hk hcap ih =>
  by_cases u:l=[]
  .subst u;exact .sl k [] base cap x off xs (by simp) (by simp) (by simp) (by simp) (by simp) hcap
  .refine .sl k l base cap x off xs (λh=>⟨(hb h).1,G _ (hb h).2⟩) (λi j hi F=>?_) ho ih hk hcap;rw[cell?_of_block (H _ (hb u).2)];exact hc i j hi F
 | ro c x off xs hx hc ho hr ih =>
  refine .ro c x off xs (G _ hx) (λj F=>?_) ho ih;rw[cell?_of_block (H _ hx)];exact hc j F
 |fn f c vs u hr ih=>exact .fn f c vs u ih
 |agg c vs u hr ih=>exact .agg c vs u ih
 |tup c vs u hr ih=>exact .tup c vs u ih
mutual
def AV.has (n:Name):AV->Bool
 |.loc m _ _=>decide (m=n)
 |.ptr m _ _=>decide (m=n)
 |.fn _ c=>lJ n c
 |.agg c=>lJ n c
 |.tup c=>lJ n c
 |_=>false
def lJ (n:Name):List AV->Bool
 | []=>false
 |x::r=>x.has n||lJ n r
end
theorem qY {n:Name}:∀{c:List AV}{j:Nat},lJ n c=false->(c.getD j .junk).has n=false
 | [],j,_=>by simp[AV.has]
 |x::r,0,h=>by simp[lJ] at h;simpa using h.1
 |x::r,j+1,h=>by simp[lJ] at h;simpa using qY (c:=r) (j:=j) h.2
def Blk.has (n:Name):Blk->Bool
 |.var c _=>lJ n c
 |.arr _ _ _=>false
/-! ## the open reading -/
def aAi (ρ:Name->Option Nat) (κ:Name->Nat) (h:Name->Option Blk) (n:Name) (off len:Nat) (v:Value):Prop:=
 ∀ k l z,h n=some (.arr k l z)->off+len<=l.length∧∃base cap,v=.slice base len cap∧len<=cap∧cap<2 ^ 63∧
  (0<len->∃x,ρ n=some x∧base=some ⟨x,off*k,none⟩)∧
  (off=0->len=l.length->(ρ n=none∧base=none∧cap=0)∨∃x,ρ n=some x∧base=some ⟨x,0,none⟩∧cap*k<=κ n)
def aEv (ρ:Name->Option Nat) (h:Name->Option Blk) (n:Name) (e c:Nat) (v:Value):Prop:=
 ∀b,h n=some b->∃x,ρ n=some x∧v=.pointer (some ⟨x,e*b.k+c,none⟩)
inductive RV (S:Nat->Prop) (w:World) (ρ:Name->Option Nat) (κ:Name->Nat) (h:Name->Option Blk):AV->Value->Prop
 |junk (v:Value):RV S w ρ κ h .junk v
 |clo {x:AV}{v:Value} (hx:RC S w x v):RV S w ρ κ h x v
 |loc (n:Name) (off len:Nat) (v:Value) (hv:aAi ρ κ h n off len v):RV S w ρ κ h (.loc n off len) v
 |ptr (n:Name) (e c:Nat) (v:Value) (hv:aEv ρ h n e c v):RV S w ρ κ h (.ptr n e c) v
 | fn (f:FuncId) (c:List AV) (vs:Array Value) (hl:c.length=vs.size)
   (hr:∀j,j<c.length->RV S w ρ κ h (c.getD j .junk) (vs.getD j undef)):RV S w ρ κ h (.fn f c) (.func (.func f) #[] vs)
 | agg (c:List AV) (vs:Array Value) (hl:c.length=vs.size)
   (hr:∀j,j<c.length->RV S w ρ κ h (c.getD j .junk) (vs.getD j undef)):RV S w ρ κ h (.agg c) (.agg vs)
 | tup (c:List AV) (vs:Array Value) (hl:c.length=vs.size)
   (hr:∀j,j<c.length->RV S w ρ κ h (c.getD j .junk) (vs.getD j undef)):RV S w ρ κ h (.tup c) (.tuple vs)
def gQ (ρ ρ':Name->Option Nat) (κ κ':Name->Nat) (h h':Name->Option Blk) (n:Name):Prop:=
 ∀b',h' n=some b'->ρ' n=ρ n∧κ' n=κ n∧∃b,h n=some b∧b.same b'
theorem aAi.mono {ρ ρ':Name->Option Nat}{κ κ':Name->Nat}{h h':Name->Option Blk}{n:Name}{off len:Nat}{v:Value}
  (F:gQ ρ ρ' κ κ' h h' n) (G:aAi ρ κ h n off len v):aAi ρ' κ' h' n off len v:=by
 intro k l z u
 all_goals grind [Blk.same,Blk,gQ,aAi]
theorem aEv.mono {ρ ρ':Name->Option Nat}{κ κ':Name->Nat}{h h':Name->Option Blk}{n:Name}{e c:Nat}{v:Value}
  (u:gQ ρ ρ' κ κ' h h' n) (F:aEv ρ h n e c v):aEv ρ' h' n e c v:=by
 grind [Blk.same_k,gQ,aEv]
theorem RV.mono {S S':Nat->Prop}{w w':World}{ρ ρ':Name->Option Nat}{κ κ':Name->Nat}{h h':Name->Option Blk}
  (I:∀b,S b->S' b) (J:∀b,S b->w'.heap[b]? = w.heap[b]?) {x:AV}{v:Value}
  (H:RV S w ρ κ h x v) (G:∀n,x.has n=true->gQ ρ ρ' κ κ' h h' n):RV S' w' ρ' κ' h' x v:=by
 have F:∀c:List AV,∀j,j<c.length->∀n,(c.getD j .junk).has n=true->lJ n c=true:=by
  grind [qY]
 induction H with
 |junk v=>exact .junk v
 |clo H=>exact .clo (H.mono I J)
 |loc n off len v hv=>exact .loc n off len v (hv.mono (G n (by simp[AV.has])))
 |ptr n e c v hv=>exact .ptr n e c v (hv.mono (G n (by simp[AV.has])))
 |fn f c vs hl hr ih=>exact .fn f c vs hl λj u=>ih j u λn hh=>G n (by simpa[AV.has] using F c j u n hh)
 |agg c vs hl hr ih=>exact .agg c vs hl λj u=>ih j u λn hh=>G n (by simpa[AV.has] using F c j u n hh)
 |tup c vs hl hr ih=>exact .tup c vs hl λj u=>ih j u λn hh=>G n (by simpa[AV.has] using F c j u n hh)
/-! ## the blocks -/
def aG9 (fr:Nat×Nat) (n:Nat):Prop:=∀j,j<n->¬(fr.1<=j∧j<fr.2)
def wW (S:Nat->Prop) (w:World) (ρ:Name->Option Nat) (κ:Name->Nat) (h:Name->Option Blk) (n:Name):Blk->Prop
 | .var c z=>∃x cs T fr,ρ n=some x∧w.heap[x]? = some (.cells cs T fr)∧aG9 fr cs.size∧(z=false->¬S x)∧(z=true->S x)∧cs.size=κ n∧
   c.length<=cs.size∧∀j,j<c.length->(cs.getD j undef).oneCell'=true∧RV S w ρ κ h (c.getD j .junk) (cs.getD j undef)
 | .arr k l z=>(∀i,i<l.length->(l.getD i []).length=k)∧((ρ n=none∧l=[])∨∃x cs T fr,ρ n=some x∧w.heap[x]? = some (.cells cs T fr)∧aG9 fr cs.size∧
     (z=false->¬S x)∧(z=true->S x)∧cs.size=κ n∧l.length*k<=cs.size∧
     ∀i j,i<l.length->j<k->(cs.getD (i*k+j) undef).oneCell'=true∧RC S w ((l.getD i []).getD j .junk) (cs.getD (i*k+j) undef))
def Env (S:Nat->Prop) (w:World):Prop:=∀p,p∈envs->S p.1∧p.2 w.heap[p.1]?
class Tab (g:Nat) (p:Option Obj->Prop) extends Envs where
 has:∀S w,@Env toEnvs S w->S g∧p w.heap[g]?
theorem Env.mono {S S':Nat->Prop}{w w':World} (h:Env S w) (F:∀b,S b->S' b) (G:∀b,S b->w'.heap[b]? = w.heap[b]?):Env S' w':=
 λp u=>⟨F _ (h p u).1,by rw[G _ (h p u).1];exact(h p u).2⟩
structure HOK (S:Nat->Prop) (w:World) (ρ:Name->Option Nat) (κ:Name->Nat) (h:Name->Option Blk):Prop where
 blk:∀n b,h n=some b->wW S w ρ κ h n b
 inj:∀n m x,(h n).isSome->(h m).isSome->ρ n=some x->ρ m=some x->n=m
 dom:∀b,S b->b<w.heap.size
 env:Env S w
theorem wW.mono {S S':Nat->Prop}{w w':World}{ρ ρ':Name->Option Nat}{κ κ':Name->Nat}{h h':Name->Option Blk}{n:Name}{b:Blk}
  (L:∀b,S b->S' b) (I:∀x,ρ n=some x->S' x->S x) (hw:∀b,S b->w'.heap[b]? = w.heap[b]?)
  (hb:wW S w ρ κ h n b) (hx:∀x,ρ n=some x->w'.heap[x]? = w.heap[x]?) (Z:ρ' n=ρ n) (e2:κ' n=κ n)
  (hn:∀m,b.has m=true->gQ ρ ρ' κ κ' h h' m):wW S' w' ρ' κ' h' n b:=by
 cases b with
 | var c z =>
  obtain⟨x,cs,T,fr,u,h2,M,O,F,U,V,H⟩:=hb;refine⟨x,cs,T,fr,by rw[Z];exact u,by rw[hx x u];exact h2,M,λG Y=>O G (I _ u Y),λG=>L _ (F G),by rw[e2];exact U,V,λj J=>⟨(H j J).1,(H j J).2.mono L hw λm hm=>hn m ?_⟩⟩
  all_goals grind [Blk.has,qY]
 | arr k l z =>
  obtain⟨h0,h⟩:=hb;refine⟨h0,?_⟩;rcases h with⟨u,h2⟩|⟨x,cs,T,fr,u,h2,M,O,F,U,V,H⟩
  .grind
  .exact .inr ⟨x,cs,T,fr,by rw[Z];exact u,by rw[hx x u];exact h2,M,λG Y=>O G (I _ u Y),λG=>L _ (F G),by rw[e2];exact U,V,λi j hi J=>⟨(H i j hi J).1,(H i j hi J).2.mono L hw⟩⟩
end
section
def powP:Option Obj->Prop:=λo=>∃T fr,o=some (.cells (Lib.pow10Tab.map λz=>Value.int .u64 z).toArray T fr)
theorem Tab.at {g:Nat}{p:Option Obj->Prop} [h:Tab g p] {S:Nat->Prop}{w:World} (u:Env S w):S g∧p w.heap[g]?:=h.has S w u
end
section
variable [Envs]
structure FSt where
 s:Nat->AV
 h:Name->Option Blk
structure Ctx where
 nt:Nat
 w0:World
 S0:Nat->Prop
 Mut:Nat->Prop
 ρ0:Nat->Option Nat:=λ_=>none
 κ0:Nat->Nat:=λ_=>0
 h0:Nat->Option Blk:=λ_=>none
structure OK (C:Ctx) (σ:FSt) (a:Act) (w:World) (S:Nat->Prop) (ρ:Name->Option Nat) (κ:Name->Nat):Prop where
 nt:a.tmps.size=C.nt
 defers:a.defers=[]
 slots:∀t,RV S w ρ κ σ.h (σ.s t) (a.tmps.getD t undef)
 hok:HOK S w ρ κ σ.h
 size:C.w0.heap.size<=w.heap.size
 old:∀b,b<C.w0.heap.size->¬C.Mut b->w.heap[b]? = C.w0.heap[b]?
 mine:∀n x,(σ.h n).isSome->ρ n=some x->C.w0.heap.size<=x∨C.Mut x
 S0:∀b,C.S0 b->S b
 Snew:∀b,S b->C.S0 b∨C.w0.heap.size<=b∨C.Mut b
 out:w.os=C.w0.os∧w.output=C.w0.output
 keep:∀j b,σ.h (.b j)=some b->ρ (.b j)=C.ρ0 j∧κ (.b j)=C.κ0 j∧∃b0,C.h0 j=some b0∧b0.same b
def upd (s:Nat->AV) (d:Option Nat) (x:AV):Nat->AV:=
 match d with
 |some d=>λt=>if t=d then x else s t
 |none=>s
def hput (h:Name->Option Blk) (n:Name) (b:Option Blk):Name->Option Blk:=λm=>if m=n then b else h m
theorem OK.put {C:Ctx}{σ:FSt}{a:Act}{w:World}{S:Nat->Prop}{ρ:Name->Option Nat}{κ:Name->Nat} (u:OK C σ a w S ρ κ) {x:AV}{v:Value}
  (H:RV S w ρ κ σ.h x v) {d:Option Nat} (F:∀d',d=some d'->d'<C.nt):OK C ⟨upd σ.s d x,σ.h⟩ (a.put d v) w S ρ κ:=by
 cases d with
 |none=>exact u
 | some d =>
  have F:=F d rfl;refine{u with nt:=by simp[Act.put,u.nt],defers:=by simp[Act.put,u.defers],slots:=λt=>?_};simp only[upd,Act.put];by_cases G:t=d
  .subst G;have:t<a.tmps.size:=by rw[u.nt];exact F
   simp only[Bt];have e:(a.tmps.setIfInBounds t v).getD t undef=v:=by simp[this]
   rw[e];exact H
  .simp only[G,Bg]
   have e:(a.tmps.setIfInBounds d v).getD t undef=a.tmps.getD t undef:=by
    simp[CY (DL G)]
   rw[e];exact u.slots t
def Ext (w w':World):Prop:=w.heap.size<=w'.heap.size∧(∀b,b<w.heap.size->w'.heap[b]? = w.heap[b]?)∧w'.os=w.os∧w'.output=w.output
theorem Ext.refl (w:World):Ext w w:=⟨AL _,λ_ _=>rfl,rfl,rfl⟩
theorem Ext.of_heap {w w':World} (h:w'.heap=w.heap) (u:w'.os=w.os) (h2:w'.output=w.output):Ext w w':=⟨by rw[h];exact AL _,λ_ _=>by rw[h],u,h2⟩
theorem Ext.push (w:World) (o:Obj):Ext w {w with heap:=w.heap.push o}:=
 ⟨by simp,λb u=>by simp[Array.getElem?_push,Nat.ne_of_lt u],rfl,rfl⟩
theorem Ext.trans {w F G:World} (h:Ext w F) (h':Ext F G):Ext w G:=
 ⟨BJ h.1 h'.1,λb u=>by rw[h'.2.1 b (BR u h.1),h.2.1 b u],h'.2.2.1.trans h.2.2.1,h'.2.2.2.trans h.2.2.2⟩
theorem gQ.refl (ρ:Name->Option Nat) (κ:Name->Nat) (h:Name->Option Blk) (n:Name):gQ ρ ρ κ κ h h n:=
 λu F=>⟨rfl,rfl,u,F,u.same_refl⟩
theorem HOK.lt {S:Nat->Prop}{w:World}{ρ:Name->Option Nat}{κ:Name->Nat}{h:Name->Option Blk} (u:HOK S w ρ κ h) {n:Name}{x:Nat}
  (H:(h n).isSome) (J:ρ n=some x):x<w.heap.size:=by
 obtain⟨b,G⟩:=AQ.1 H;have:=u.blk n b G
 have I:∀{x:Nat}{cs:Array Value}{T:TypeId}{fr:Nat×Nat},w.heap[x]? = some (.cells cs T fr)->x<w.heap.size:=by
  grind
 cases b with
 | var c z =>
  obtain⟨y,cs,T,fr,F,h2,_⟩:=this
  all_goals grind
 | arr k l z =>
  obtain⟨_,⟨F,_⟩|⟨y,cs,T,fr,F,h2,_⟩⟩:=this
  all_goals grind
theorem HOK.ext {S:Nat->Prop}{w w':World}{ρ:Name->Option Nat}{κ:Name->Nat}{h:Name->Option Blk} (u:HOK S w ρ κ h) (G:Ext w w'):HOK S w' ρ κ h where
 blk n b F:=(u.blk n b F).mono (λ_ h=>h) (λ_ _ h=>h) (λb F=>G.2.1 b (u.dom b F)) (λx H=>G.2.1 x (u.lt (by simp[F]) H)) rfl rfl (λm _=>gQ.refl _ _ _ _)
 inj:=u.inj
 dom b F:=BR (u.dom b F) G.1
 env:=u.env.mono (λ_ h=>h) λb F=>G.2.1 b (u.dom b F)
theorem OK.ext {C:Ctx}{σ:FSt}{a:Act}{w w':World}{S:Nat->Prop}{ρ:Name->Option Nat}{κ:Name->Nat} (hok:OK C σ a w S ρ κ) (he:Ext w w'):OK C σ a w' S ρ κ where
 nt:=hok.nt
 defers:=hok.defers
 slots t:=(hok.slots t).mono (λ_ h=>h) (λb hb=>he.2.1 b (hok.hok.dom b hb)) (λn _=>gQ.refl _ _ _ _)
 hok:=hok.hok.ext he
 size:=BJ hok.size he.1
 old b hb hm:=by rw[he.2.1 b (BR hb hok.size)];exact hok.old b hb hm
 mine:=hok.mine
 S0:=hok.S0
 Snew:=hok.Snew
 out:=⟨he.2.2.1.trans hok.out.1,he.2.2.2.trans hok.out.2⟩
 keep:=hok.keep
def gW (n:Name) (σ:FSt):Prop:=(σ.h n=none∧∀j,n≠.b j)∧(∀t,(σ.s t).has n=false)∧∀m b,σ.h m=some b->b.has n=false
theorem OK.add {C:Ctx}{σ:FSt}{a:Act}{w w':World}{S:Nat->Prop}{ρ:Name->Option Nat}{κ:Name->Nat} (hok:OK C σ a w S ρ κ) (he:Ext w w')
  {n:Name} (hf:gW n σ) {b:Blk}{ox:Option Nat}{kn:Nat} (hd:∀x,ox=some x->w.heap.size<=x)
  (hb:∀ρ' κ' h',ρ' n=ox->κ' n=kn->(∀m,m≠n->gQ ρ ρ' κ κ' σ.h h' m)->wW S w' ρ' κ' h' n b) :
  OK C ⟨σ.s,hput σ.h n (some b)⟩ a w' S (λm=>if m=n then ox else ρ m) (λm=>if m=n then kn else κ m):=by
 have hn:∀m,m≠n->gQ ρ (λm=>if m=n then ox else ρ m) κ (λm=>if m=n then kn else κ m) σ.h (hput σ.h n (some b)) m:=by
  intro m I M J;simp only[hput,I,Bg] at J⊢;exact⟨trivial,trivial,M,J,M.same_refl⟩
 have u:=hok.ext he
 have F:∀j c,hput σ.h n (some b) (.b j)=some c->(if Name.b j=n then ox else ρ (.b j))=C.ρ0 j∧(if Name.b j=n then kn else κ (.b j))=C.κ0 j∧∃O,C.h0 j=some O∧O.same c:=by
  grind [hput,OK,gW]
 refine{u with slots:=λt=>?_,hok:=⟨λm c hc=>?_,λm L x H h2 Y Z=>?_,u.hok.dom,u.hok.env⟩,mine:=λm x H h2=>?_,keep:=F}
 .refine(u.slots t).mono (λ_ h=>h) (λ_ _=>rfl) λm I=>hn m ?_;rintro rfl;rw[hf.2.1 t] at I;cases I
 .by_cases G:m=n
  .grind [hput]
  .simp only[hput,G,Bg] at hc;refine(u.hok.blk m c hc).mono (λ_ h=>h) (λ_ _ h=>h) (λ_ _=>rfl) (λ_ _=>rfl) (by simp[G]) (by simp[G]) λL ha=>hn L ?_
   all_goals grind [gW]
 .have hg:∀m x,m≠n->(hput σ.h n (some b) m).isSome->(if m=n then ox else ρ m)=some x->x<w.heap.size:=by
   intro m x I H h2;simp only[hput,I,Bg] at H h2;exact hok.hok.lt H h2
  by_cases U:m=n<;>by_cases V:L=n
  .rw[U,V]
  .grind
  .grind
  .simp only[hput,U,V,Bg] at H h2 Y Z;exact hok.hok.inj m L x H h2 Y Z
 all_goals grind [hput,OK]
/-! ## operands -/
def AV.ofValue:Value->AV
 |.agg cs=>.agg (cs.toList.map λx=>.v x)
 |x=>.v x
def evO (s:Nat->AV):Operand->AV
 |.tmp t=>s t
 |.const v=>.ofValue v
 |.global _=>.junk
 |.func f=>.fn f []
theorem aJH {S:Nat->Prop}{w:World} (cs:Array Value):RC S w (.agg (cs.toList.map λx=>.v x)) (.agg cs):=by
 refine .agg _ _ (by simp) λj u=>?_;simp only[BC,BK] at u;simp[List.getD,u];exact .v _
theorem OK.ev {C:Ctx}{σ:FSt}{a:Act}{w:World}{S:Nat->Prop}{ρ:Name->Option Nat}{κ:Name->Nat} (u:OK C σ a w S ρ κ) (x:Operand) :
  RV S w ρ κ σ.h (evO σ.s x) (a.eval x):=by
 cases x with
 |tmp t=>exact u.slots t
 |const v=>cases v<;>first|exact .clo (aJH _)|exact .clo (.v _)
 |global g=>exact .junk _
 |func f=>exact .fn f [] #[] rfl (by simp)
end
section
variable [Envs]
inductive AOp where
 |mv (x:Operand)
 |pick (c a b:Operand)
 |load (g:Bool) (k:Nat) (a:Operand)
 |fieldAddr (off:Nat) (x:Operand)
 |loadV (g:Bool) (k:Nat) (a:Operand)
 |fieldV (off:Nat) (x:Operand)
 |field (g:Bool) (off k:Nat) (x:Operand)
 |idxSl (k:Nat) (x i:Operand)
 |idxArr (n k:Nat) (x i:Operand)
 |idxAgg (g:Bool) (n k:Nat) (x i:Operand)
 |idxStr (x i:Operand)
 |bin (op:BinOp) (x y:Operand)
 |binS (op:BinOp) (x y:Operand)
 |binB (op:BinOp) (x y:Operand)
 |un (op:UnOp) (x:Operand)
 |conv (k:IntKind) (x:Operand)
 |b2s (x:Operand)
 |eqA (neg:Bool) (ks:List Nat) (x y:Operand)
 |idxB (x y:Operand)
 |len (x:Operand)
 |lenS (x:Operand)
 |lenC (n:Nat)
 |slc (k:Nat) (x:Operand) (lo hi:Option Operand)
 |sstr (x:Operand) (lo hi:Option Operand)
 |nilc (x:Operand)
 |extract (x:Operand) (i:Nat)
 |build (z:List AV) (parts:List (Nat×Nat×Operand))
 |mkfn (f:FuncId) (caps:List Operand)
 |mm (mx:Bool) (x y:Operand)
 |box (x:Operand)
 |alloc (z:List AV)
 |bslice (k n:Nat) (z:List AV) (parts:List (Nat×Operand))
 |mk (k bytes:Nat) (z:List AV) (n:Operand)
 |call (f:Operand) (args:List Operand) (bor:List Nat)
 |store (k:Nat) (a x:Operand)
 |append (k bytes:Nat) (a x:Operand)
 |appendC (k bytes:Nat) (a x:Operand)
 |bsliceC (k n:Nat) (z:List AV) (parts:List (Nat×Operand))
 |clr (k:Nat) (z:List AV) (x:Operand)
 deriving Inhabited
def rQ (h:Name->Option Blk):AV->Bool
 |.v x=>x.oneCell'
 |.sl _ _=>true
 |.ro _=>true
 |.fn _ _=>true
 |.loc n _ _=>match h n with|some (.arr _ _ _)=>true|_=>false
 |.ptr n _ _=>(h n).isSome
 |_=>false
def kR (h:Name->Option Blk):AV->Option (List AV)
 |.agg c=>if c.all (rQ h) then some c else none
 |x=>if rQ h x then some [x] else none
def AV.mk (g:Bool) (c:List AV):AV:=if g then .agg c else c.headD .junk
def Blk.row:Blk->Nat->List AV
 |.var c _,0=>c
 |.var _ _,_+1=>[]
 |.arr _ l _,e=>l.getD e []
def gG (op:BinOp) (k:IntKind) (a b:Int):Int:=
 let x:=BitVec.ofInt k.bits a
 let y:=BitVec.ofInt k.bits b
 k.wrap (match op with|.and=>x &&& y|.or=>x ||| y|.xor=>x ^^^ y|_=>x &&& ~~~y).toNat
def aGe (op:BinOp) (k k':IntKind) (a b:Int) (K:AV->Prop):Prop:=
 match op with
 |.add=>k=k'∧K (.v (.int k (k.wrap (a+b))))
 |.sub=>k=k'∧K (.v (.int k (k.wrap (a-b))))
 |.mul=>k=k'∧K (.v (.int k (k.wrap (a*b))))
 |.quo=>(k=k'∧b≠0)∧K (.v (.int k (k.wrap (a.tdiv b))))
 |.rem=>(k=k'∧b≠0)∧K (.v (.int k (a.tmod b)))
 |.eql=>k=k'∧K (.v (.bool (a==b)))
 |.neq=>k=k'∧K (.v (.bool (a != b)))
 |.lss=>k=k'∧K (.v (.bool (a<b)))
 |.leq=>k=k'∧K (.v (.bool (a<=b)))
 |.gtr=>k=k'∧K (.v (.bool (a>b)))
 |.geq=>k=k'∧K (.v (.bool (a≥b)))
 |.shl=>0<=b∧K (.v (.int k (k.wrap (a*2 ^ (min b.toNat k.bits)))))
 |.shr=>0<=b∧K (.v (.int k (a.fdiv (2 ^ (min b.toNat k.bits)))))
 |.and=>k=k'∧K (.v (.int k (gG .and k a b)))
 |.or=>k=k'∧K (.v (.int k (gG .or k a b)))
 |.xor=>k=k'∧K (.v (.int k (gG .xor k a b)))
 |.andNot=>k=k'∧K (.v (.int k (gG .andNot k a b)))
def aBI (op:BinOp) (x y:ByteArray) (K:AV->Prop):Prop:=
 match op with
 |.add=>x.size+y.size<=9223372036854775807∧K (.v (.string (x++y)))
 |.eql=>K (.v (.bool (x.toList==y.toList)))
 |.neq=>K (.v (.bool (!(x.toList==y.toList))))
 |_=>False
def zU (op:BinOp) (x y:Bool) (K:AV->Prop):Prop:=
 match op with
 |.eql=>K (.v (.bool (x==y)))
 |.neq=>K (.v (.bool (!(x==y))))
 |_=>False
def lay:List AV->Nat->List AV->List AV
 |cs,_,[]=>cs
 |cs,o,x::r=>lay (cs.set o x) (o+1) r
def layAll (ev:Operand->AV) (h:Name->Option Blk):List AV->List (Nat×Nat×Operand)->(List AV->Prop)->Prop
 |cs,[],K=>K cs
 | cs,(o,n,x)::r,K=>match kR h (ev x) with
  |some c=>(c.length=n∧o+n<=cs.length)∧layAll ev h (lay cs o c) r K
  |none=>False
def eqV:Nat->Value->Value->Option Bool
 |0,.int k a,.int k' b=>if k=k' then some (a==b) else none
 |1,.bool a,.bool b=>some (a==b)
 |2,.string a,.string b=>some (a.toList==b.toList)
 |_,_,_=>none
def eqC:List Nat->List AV->List AV->Option Bool
 | [],[],[]=>some true
 | k::ks,.v x::r,.v y::s=>match eqV k x y,eqC ks r s with
  |some a,some b=>some (a&&b)
  |_,_=>none
 |_,_,_=>none
def pJ (k:Nat) (h:Name->Option Blk):AV->Option (List (List AV))
 |.sl k' l=>if k'=k then some l else none
 | .loc n off len=>match h n with
  |some (.arr k' l _)=>if k'=k then some ((l.drop off).take len) else none
  |_=>none
 |.v (.slice none 0 0)=>some []
 |_=>none
inductive Tag {α:Type} (a:α):Type where
 |x
 |y
def Br (b:Bool) (A B:Prop) (_:Tag (A,B)):Prop:=(b=true->A)∧(b=false->B)
theorem aL9 {A B:Prop}{t:Tag (A,B)}:Br true A B t↔A:=⟨λh=>h.1 rfl,λh=>⟨λ_=>h,λh=>(by cases h)⟩⟩
theorem aK2 {A B:Prop}{t:Tag (A,B)}:Br false A B t↔B:=⟨λh=>h.2 rfl,λh=>⟨λh=>(by cases h),λ_=>h⟩⟩
theorem Br.mk {b:Bool}{A B:Prop}{t:Tag (A,B)} (u:b=true->A) (h2:b=false->B):Br b A B t:=⟨u,h2⟩
theorem Br.get {b:Bool}{A B:Prop}{t:Tag (A,B)} (h:Br b A B t):(b=true->A)∧(b=false->B):=h
def BrW (b want:Bool) (A B:Prop):Prop:=match want with
 |true=>Br b A B .x
 |false=>Br b B A .x
theorem lG {b u:Bool}{A B:Prop}:BrW b u A B↔(b=u->A)∧(b = !u->B):=by
 cases u
 .exact⟨λh=>⟨h.2,h.1⟩,λh=>⟨h.2,h.1⟩⟩
 .exact⟨λh=>⟨h.1,h.2⟩,λh=>⟨h.1,h.2⟩⟩
def rT:List (List AV)->Option (List Int)
 | []=>some []
 | [.v (.int .u8 n)]::r=>match rT r with
  |some l=>some (n::l)
  |none=>none
 |_=>none
def zM (s:ByteArray) (c:Int):Int:=match(List.range s.size).find? λi=>s[i]! == c.toNat.toUInt8 with
 |some i=>i
 |none=>-1
def lH (ns:List Int):ByteArray:=⟨(ns.map λn=>UInt8.ofNat n.toNat).toArray⟩
def rP:AV->Bool
 |.v _=>true
 |_=>false
def rd (ev:Operand->AV) (h:Name->Option Blk) (K:AV->Prop):AOp->Prop
 |.mv x=>K (ev x)
 | .pick c a b=>match ev c with
  |.v (.bool t)=>Br t (K (ev a)) (K (ev b)) .x
  |_=>False
 | .load g k a=>match ev a with
  |.ro c=>k<=c.length∧K (.mk g (c.take k))
  | .ptr n e c=>match h n with
   |some b=>c+k<=(b.row e).length∧K (.mk g (((b.row e).drop c).take k))
   |none=>False
  |_=>False
 | .fieldAddr off x=>match ev x with
  | .ptr n e c=>match h n with
   |some _=>K (.ptr n e (c+off))
   |none=>False
  |.ro c=>off<=c.length∧K (.ro (c.drop off))
  |_=>False
 | .loadV g k a=>match ev a with
  | .ptr n e c=>match h n with
   |some (.var cs z)=>(c+k<=((Blk.var cs z).row e).length∧(!g||((((Blk.var cs z).row e).drop c).take k).all rP)=true)∧K (.mk g ((((Blk.var cs z).row e).drop c).take k))
   |_=>False
  |_=>False
 | .fieldV off x=>match ev x with
  | .ptr n e c=>match h n with
   |some (.var _ _)=>K (.ptr n e (c+off))
   |_=>False
  |_=>False
 | .field g off k x=>match ev x with
  |.agg c=>off+k<=c.length∧K (.mk g ((c.drop off).take k))
  |_=>False
 | .idxSl k x i=>match ev x,ev i with
  |.sl k' l,.v (.int _ i)=>(k'=k∧0<=i∧i<l.length)∧K (.ro (l.getD i.toNat []))
  | .loc n off len,.v (.int _ i)=>match h n with
   |some (.arr k' _ _)=>(k'=k∧0<=i∧i<len)∧K (.ptr n (off+i.toNat) 0)
   |_=>False
  |_,_=>False
 | .idxArr n k x i=>match ev x,ev i with
  |.ro c,.v (.int _ i)=>(0<=i∧i<n∧i.toNat*k<=c.length)∧K (.ro (c.drop (i.toNat*k)))
  | .ptr m e c,.v (.int _ i)=>match h m with
   |some _=>(0<=i∧i<n)∧K (.ptr m e (c+i.toNat*k))
   |none=>False
  |_,_=>False
 | .idxAgg g n k x i=>match ev x,ev i with
  |.agg c,.v (.int _ i)=>(0<=i∧i<n∧i.toNat*k+k<=c.length)∧K (.mk g ((c.drop (i.toNat*k)).take k))
  |_,_=>False
 | .idxStr x i=>match ev x,ev i with
  |.v (.string s),.v (.int _ i)=>(0<=i∧i<s.size)∧K (.v (.int .u8 (s.data.toList.getD i.toNat 0).toNat))
  |_,_=>False
 | .bin op x y=>match ev x,ev y with
  |.v (.int k a),.v (.int k' b)=>aGe op k k' a b K
  |_,_=>False
 | .binS op x y=>match ev x,ev y with
  |.v (.string a),.v (.string b)=>aBI op a b K
  |_,_=>False
 | .binB op x y=>match ev x,ev y with
  |.v (.bool a),.v (.bool b)=>zU op a b K
  |_,_=>False
 | .un op x=>match op,ev x with
  |.not,.v (.bool b)=>K (.v (.bool (!b)))
  |.neg,.v (.int k n)=>K (.v (.int k (k.wrap (0-n))))
  |.xor,.v (.int k n)=>K (.v (.int k (gG .xor k (if k.signed then -1 else k.max) n)))
  |_,_=>False
 | .conv k x=>match ev x with
  |.v (.int _ n)=>K (.v (.int k (k.wrap n)))
  |_=>False
 | .len x=>match ev x with
  |.sl _ l=>K (.v (.int .i64 l.length))
  | .loc n _ len=>match h n with
   |some (.arr _ _ _)=>K (.v (.int .i64 len))
   |_=>False
  |.v (.slice _ n _)=>K (.v (.int .i64 n))
  |_=>False
 | .lenS x=>match ev x with
  |.v (.string s)=>K (.v (.int .i64 s.size))
  |_=>False
 |.lenC n=>K (.v (.int .i64 n))
 | .slc k x lo hi=>match ev x with
  | .sl k' l =>
   let f:Int->Int->Prop:=λlo hi=>(k'=k∧0<=lo∧lo<=hi∧hi<=l.length)∧K (.sl k ((l.take hi.toNat).drop lo.toNat))
   match lo.map ev,hi.map ev with
   |none,none=>f 0 l.length
   |some (.v (.int _ lo)),none=>f lo l.length
   |none,some (.v (.int _ hi))=>f 0 hi
   |some (.v (.int _ lo)),some (.v (.int _ hi))=>f lo hi
   |_,_=>False
  | .loc n off len=>match h n with
   | some (.arr k' _ _) =>
    let f:Int->Int->Prop:=λlo hi=>(k'=k∧0<=lo∧lo<=hi∧hi<=len)∧K (.loc n (off+lo.toNat) (hi-lo).toNat)
    match lo.map ev,hi.map ev with
    |none,none=>f 0 len
    |some (.v (.int _ lo)),none=>f lo len
    |none,some (.v (.int _ hi))=>f 0 hi
    |some (.v (.int _ lo)),some (.v (.int _ hi))=>f lo hi
    |_,_=>False
   |_=>False
  |_=>False
 | .sstr x lo hi=>match ev x with
  | .v (.string s) =>
   let f:Int->Int->Prop:=λlo hi=>(0<=lo∧lo<=hi∧hi<=s.size)∧K (.v (.string (s.extract lo.toNat hi.toNat)))
   match lo.map ev,hi.map ev with
   |none,none=>f 0 s.size
   |some (.v (.int _ lo)),none=>f lo s.size
   |none,some (.v (.int _ hi))=>f 0 hi
   |some (.v (.int _ lo)),some (.v (.int _ hi))=>f lo hi
   |_,_=>False
  |_=>False
 | .nilc x=>match ev x with
  |.ro c=>K (.ro c)
  | .ptr n e c=>match h n with
   |some _=>K (.ptr n e c)
   |none=>False
  |.fn f c=>K (.fn f c)
  |_=>False
 | .extract x i=>match ev x with
  |.tup c=>i<c.length∧K (c.getD i .junk)
  |_=>False
 |.build z parts=>layAll ev h z parts λcs=>K (.agg cs)
 |.mkfn f caps=>K (.fn f (caps.map ev))
 | .mm mx x y=>match ev x,ev y with
  |.v (.int k a),.v (.int _ b)=>K (.v (.int k (if mx then(if b>a then b else a) else(if b<a then b else a))))
  |_,_=>False
 | .b2s x=>match pJ 1 h (ev x) with
  | some l=>match rT l with
   |some ns=>K (.v (.string (lH ns)))
   |none=>False
  |none=>False
 | .eqA neg ks x y=>match ev x,ev y with
  | .agg c,.agg c'=>match eqC ks c c' with
   |some b=>K (.v (.bool (if neg then !b else b)))
   |none=>False
  |_,_=>False
 | .idxB x y=>match ev x,ev y with
  |.v (.string s),.v (.int .u8 c)=>K (.v (.int .i64 (zM s c)))
  |_,_=>False
 |.box _|.alloc _|.bslice .. | .mk .. | .call .. | .store .. | .append .. | .appendC .. | .bsliceC .. | .clr ..=>False
theorem aJC {ev:Operand->AV}{h:Name->Option Blk}{K:AV->Prop}{g:Bool}{k:Nat}{a:Operand} (u:rd ev h K (.loadV g k a)):rd ev h K (.load g k a):=by
 simp only[rd] at u;split at u
 .rename_i n e c G;split at u
  .rename_i cs z F;simp only[rd,G,F];exact⟨u.1.1,u.2⟩
  .exact u.elim
 .exact u.elim
theorem aIs {ev:Operand->AV}{h:Name->Option Blk}{K:AV->Prop}{off:Nat}{x:Operand} (u:rd ev h K (.fieldV off x)):rd ev h K (.fieldAddr off x):=by
 simp only[rd] at u;split at u
 .rename_i n e c G;split at u
  .rename_i cs z F;simp only[rd,G,F];exact u
  .exact u.elim
 .exact u.elim
/-! ## resolving -/
def j5 (P:Program) (t:TypeId):Option Nat:=(P.info? t).map (·.size)
def jB (P:Program) (t:TypeId):Option Bool:=
 match P.underlying t with
 |some (.struct _)|some (.array _ _)=>some true
 |some _=>some false
 |none=>none
def tY (P:Program) (t:TypeId):Option (Bool×Nat):=
 match jB P t,j5 P t with
 |some true,some n=>some (true,n)
 |some false,some _=>some (false,1)
 |_,_=>none
theorem mP {P:Program}{t:TypeId}{b:Bool} (h:jB P t=some b) (w:World):(isAgg t).run P w=.ok b w:=by
 unfold jB at h;unfold isAgg underlying;cases hu:P.underlying t with
 |none=>simp[hu] at h
 |some d=>cases d<;>simp_all
theorem run_sizeOf {P:Program}{t:TypeId}{n:Nat} (h:j5 P t=some n) (w:World):(sizeOf t).run P w=.ok n w:=by
 unfold j5 at h;unfold sizeOf typeInfo;cases hi:P.info? t with
 |none=>simp[hi] at h
 |some i=>simp_all
theorem run_underlying {P:Program}{t:TypeId}{d:TypeDesc} (h:P.underlying t=some d) (w:World):(underlying t).run P w=.ok d w:=by
 unfold underlying;simp[h]
end
section
variable [Envs]
section inv
variable {S:Nat->Prop}{w:World}{ρ:Name->Option Nat}{κ:Name->Nat}{h:Name->Option Blk}{v:Value}
theorem dD {x:Value} (u:RV S w ρ κ h (.v x) v):v=x:=by
 cases u with|clo u=>cases u;rfl
theorem wG {c:List AV} (u:RV S w ρ κ h (.ro c) v):RC S w (.ro c) v:=by
 grind [RV]
theorem xU {k:Nat}{l:List (List AV)} (u:RV S w ρ κ h (.sl k l) v):RC S w (.sl k l) v:=by
 grind [RV]
theorem iE {n:Name}{off len:Nat} (u:RV S w ρ κ h (.loc n off len) v):aAi ρ κ h n off len v:=by
 cases u with
 |clo u=>cases u
 |loc _ _ _ _ hv=>exact hv
theorem eG {n:Name}{e c:Nat} (u:RV S w ρ κ h (.ptr n e c) v):aEv ρ h n e c v:=by
 cases u with
 |clo u=>cases u
 |ptr _ _ _ _ hv=>exact hv
theorem qN {c:List AV} (u:RV S w ρ κ h (.agg c) v):∃vs,v=.agg vs∧c.length=vs.size∧∀j,j<c.length->RV S w ρ κ h (c.getD j .junk) (vs.getD j undef):=by
 cases u with
 |clo u=>cases u with|agg _ vs hl hr=>exact⟨vs,rfl,hl,λj F=>.clo (hr j F)⟩
 |agg _ vs hl hr=>exact⟨vs,rfl,hl,hr⟩
theorem aA3 {c:List AV} (u:RV S w ρ κ h (.tup c) v):∃vs,v=.tuple vs∧c.length=vs.size∧∀j,j<c.length->RV S w ρ κ h (c.getD j .junk) (vs.getD j undef):=by
 cases u with
 |clo u=>cases u with|tup _ vs hl hr=>exact⟨vs,rfl,hl,λj F=>.clo (hr j F)⟩
 |tup _ vs hl hr=>exact⟨vs,rfl,hl,hr⟩
theorem aDi {f:FuncId}{c:List AV} (u:RV S w ρ κ h (.fn f c) v):∃vs,v=.func (.func f) #[] vs∧c.length=vs.size∧∀j,j<c.length->RV S w ρ κ h (c.getD j .junk) (vs.getD j undef):=by
 cases u with
 |clo u=>cases u with|fn _ _ vs hl hr=>exact⟨vs,rfl,hl,λj F=>.clo (hr j F)⟩
 |fn _ _ vs hl hr=>exact⟨vs,rfl,hl,hr⟩
end inv
theorem cell_of_row {w:World}{x off:Nat}{cs:Array Value}{T:TypeId}{fr:Nat×Nat} (F:w.heap[x]? = some (.cells cs T fr)) (u:off<cs.size) :
  w.cell? ⟨x,off,none⟩=some (cs.getD off undef):=by
 simp[World.cell?,F,u]
theorem addr_add (x off j:Nat):(⟨x,off,none⟩:Addr).add j=⟨x,off+j,none⟩:=by
 grind [Addr.add]
theorem HOK.cells {S:Nat->Prop}{w:World}{ρ:Name->Option Nat}{κ:Name->Nat}{h:Name->Option Blk} (I:HOK S w ρ κ h) {n:Name}{b:Blk} (V:h n=some b)
  {x:Nat} (G:ρ n=some x) {e j:Nat} (H:j<(b.row e).length) :
  ∃u,w.cell? ⟨x,e*b.k+j,none⟩=some u∧u.oneCell'=true∧RV S w ρ κ h ((b.row e).getD j .junk) u:=by
 have L:=I.blk n b V;cases b with
 | var c z =>
  obtain⟨y,cs,T,fr,F,h2,_,_,_,_,O,U⟩:=L;obtain rfl:=Av (F.symm.trans G);cases e with
  | zero =>
   grind [Blk.row,cell_of_row]
  |succ e=>simp[Blk.row] at H
 | arr k l z =>
  obtain⟨M,⟨F,h2⟩|⟨y,cs,T,fr,F,h2,_,_,_,_,O,U⟩⟩:=L
  .rw[F] at G;cases G
  .obtain rfl:=Av (F.symm.trans G);simp only[Blk.row,Blk.k] at H⊢
   have J:e<l.length:=by
    grind
   have Y:j<k:=by rw[←M e J];exact H
   have:e*k+j<cs.size:=by
    have:(e+1)*k<=l.length*k:=BA k J;rw[Ck] at this;omega
   all_goals grind [cell_of_row,RV]
theorem aA0 {P:Program}{T:TypeId}{k:Nat} (h:tY P T=some (false,k)):k=1:=by
 grind [tY]
theorem aBU {P:Program}{T:TypeId}{g:Bool}{k:Nat} (u:tY P T=some (g,k)) {w:World}{x off:Nat} (f:Nat->Value)
  (G:∀j,j<k->w.cell? ⟨x,off+j,none⟩=some (f j)) :
  (loadVar T ⟨x,off,none⟩).run P w=.ok (if g then .agg ((List.range k).map f).toArray else f 0) w:=by
 unfold tY at u;split at u
 .rename_i n F h2;simp only[Aj,AZ] at u;obtain⟨rfl,rfl⟩:=u;simp[loadVar,mP F,run_sizeOf h2,run_loadCells w ⟨x,off,none⟩ n f (λj H=>by rw[addr_add];exact G j H)]
 .rename_i n F h2;simp only[Aj,AZ] at u;obtain⟨rfl,rfl⟩:=u;have:=G 0 (by omega);simp only[Cg] at this;simp[loadVar,mP F,this]
 .cases u
theorem aHk {S:Nat->Prop}{w:World}{ρ:Name->Option Nat}{κ:Name->Nat}{h:Name->Option Blk}{g:Bool}{k:Nat}{c:List AV}{f:Nat->Value} (G:g=false->k=1)
  (u:c.length=k) (F:∀j,j<k->RV S w ρ κ h (c.getD j .junk) (f j)):RV S w ρ κ h (.mk g c) (if g then .agg ((List.range k).map f).toArray else f 0):=by
 cases g with
 | true =>
  simp only[AV.mk,Bt];refine .agg _ _ (by simp[u]) λj H=>?_
  have:((List.range k).map f).toArray.getD j undef=f j:=by
   have:j<k:=by omega
   simp[this]
  rw[this];exact F j (by omega)
 | false =>
  obtain rfl:=G rfl;have:=F 0 (by omega)
  match c,u with
  | [x],_=>simpa[AV.mk] using this
def Ans (P:Program) (S:Nat->Prop) (w:World) (ρ:Name->Option Nat) (κ:Name->Nat) (h:Name->Option Blk) (K:AV->Prop) (s:Sem Value):Prop:=
 ∃x v,K x∧s.run P w=.ok v w∧RV S w ρ κ h x v
variable {P:Program}{C:Ctx}{σ:FSt}{a:Act}{w:World}{S:Nat->Prop}{ρ:Name->Option Nat}{κ:Name->Nat}{K:AV->Prop}
theorem aHq (I:OK C σ a w S ρ κ) {T:TypeId}{g:Bool}{k:Nat} (L:tY P T=some (g,k)) {x:Operand} (G:rd (evO σ.s) σ.h K (.load g k x)) :
  Ans P S w ρ κ σ.h K (Instr.loadAt T (a.eval x)):=by
 have J:=I.ev x;generalize a.eval x=va at J⊢;simp only[rd] at G;split at G
 .rename_i c O;rw[O] at J;obtain⟨hk,M⟩:=G;cases wG J with
  | ro _ b off xs hS hcell ho hr =>
   refine⟨_,_,M,by simp only[Instr.loadAt,Instr.sureAddr,Sem.run_bind,Sem.run_pure,Result.andThen_ok];exact aBU L xs (λj H=>hcell j (by omega)),?_⟩;refine aHk (λU=>aA0 (U ▸ L)) (by simp;omega) λj H=>?_;have e:(c.take k).getD j .junk=c.getD j .junk:=by simp[List.getD,H]
   rw[e];exact .clo (hr j (by omega))
 .rename_i n e c O;rw[O] at J;split at G
  .rename_i b Y;obtain⟨hk,M⟩:=G;obtain⟨y,hy,V⟩:=eG J b Y;have F:=λj (H:j<(b.row e).length)=>I.hok.cells Y hy (e:=e) (j:=j) H
   let f:Nat->Value:=λj=>(w.cell? ⟨y,e*b.k+c+j,none⟩).getD undef
   have Z:∀j,j<k->w.cell? ⟨y,e*b.k+c+j,none⟩=some (f j):=λj H=>by
    obtain⟨u,hu,_⟩:=F (c+j) (by omega)
    all_goals grind
   refine⟨_,_,M,by subst V;simp only[Instr.loadAt,Instr.sureAddr,Sem.run_bind,Sem.run_pure,Result.andThen_ok];exact aBU L f Z,?_⟩;refine aHk (λU=>aA0 (U ▸ L)) (by simp;omega) λj H=>?_
   all_goals grind
  .exact G.elim
 .exact G.elim
theorem aHn {c:List AV}{v:Value}{off:Nat} (F:off<=c.length) (h:RC S w (.ro c) v):∃x o,v=.pointer (some ⟨x,o,none⟩)∧RC S w (.ro (c.drop off)) (.pointer (some ⟨x,o+off,none⟩)):=by
 cases h with
 | ro _ x o xs hS hc hone hr =>
  refine⟨x,o,rfl,.ro _ x (o+off) (λj=>xs (off+j)) hS (λj u=>?_) (λj u=>hone _ (by simp at u;omega)) λj u=>?_⟩
  all_goals grind
def wL (P:Program) (s:TypeId) (i:Nat):Option Field:=
 match P.underlying s with
 |some (.struct fs)=>fs[i]?
 |_=>none
theorem aEI (J:OK C σ a w S ρ κ) {s:TypeId}{i:Nat}{f:Field}{n:Nat} (H:wL P s i=some f) (U:j5 P f.type=some n) (L:n≠0) {x:Operand}
  (F:rd (evO σ.s) σ.h K (.fieldAddr f.offset x)):Ans P S w ρ κ σ.h K (Instr.fieldAt s (a.eval x) i):=by
 have G:=J.ev x
 have u:∀b o,(Instr.fieldAt s (.pointer (some ⟨b,o,none⟩)) i).run P w=.ok (.pointer (some ⟨b,o+f.offset,none⟩)) w:=by
  intro b o;unfold wL at H;split at H
  .rename_i fs Y;simp[Instr.fieldAt,run_underlying Y,H,Instr.sureAddr,fieldPlace,run_sizeOf U,L,addr_add]
  .cases H
 generalize a.eval x=va at G⊢;simp only[rd] at F;split at F
 .rename_i m e c I;rw[I] at G;split at F
  .rename_i b M;obtain⟨y,hy,rfl⟩:=eG G b M;refine⟨_,_,F,u _ _,.ptr _ _ _ _ λZ O=>?_⟩
   all_goals grind
  .exact F.elim
 .rename_i c I;rw[I] at G;obtain⟨y,o,rfl,V⟩:=aHn F.1 (wG G);exact⟨_,_,F.2,u _ _,.clo V⟩
 .exact F.elim
theorem aJE (H:OK C σ a w S ρ κ) {s:TypeId}{i:Nat}{f:Field}{n:Nat}{g:Bool} (u:wL P s i=some f) (U:j5 P f.type=some n) (J:jB P f.type=some g) (F:g=false->n=1)
  {x:Operand} (G:rd (evO σ.s) σ.h K (.field g f.offset n x)):Ans P S w ρ κ σ.h K (Instr.field s (a.eval x) i):=by
 have I:=H.ev x;generalize a.eval x=va at I⊢;simp only[rd] at G;split at G
 .rename_i c O;rw[O] at I;obtain⟨vs,rfl,hl,hr⟩:=qN I;unfold wL at u;split at u
  .rename_i V L;obtain⟨Z,M⟩:=G;refine⟨_,(if g then .agg ((List.range n).map λj=>vs.getD (f.offset+j) undef).toArray else vs.getD (f.offset+0) undef),M,?_,?_⟩
   .cases g with
    | true =>
     simp only[Instr.field,Sem.run_bind,run_underlying L,Result.andThen_ok,u,asAgg,Sem.run_pure,part,mP J,Bt,run_sizeOf U];congr 2;apply Array.ext (by simp;omega);intro j F h2;simp at F h2;simp[show f.offset+j<vs.size by omega]
    | false =>
     have:=F rfl;simp[Instr.field,run_underlying L,u,asAgg,part,mP J,show f.offset<vs.size by omega]
   .refine aHk F (by simp;omega) λj Y=>?_
    all_goals grind
  .cases u
 .exact G.elim
theorem aMI {k:Nat}{l:List (List AV)}{v:Value} (h:RC S w (.sl k l) v) {i:Nat} (hi:i<l.length) :
  ∃x off cap,v=.slice (some ⟨x,off,none⟩) l.length cap∧RC S w (.ro (l.getD i [])) (.pointer (some ⟨x,off+i*k,none⟩)):=by
 cases h with
 | sl _ _ base cap x off xs hb hc ho hr hk hcap =>
  have F:l≠[]:=by rintro rfl;simp at hi
  obtain⟨rfl,G⟩:=hb F;refine⟨x,off,cap,rfl,.ro _ x _ (λj=>xs (i*k+j)) G (λj u=>?_) (λj u=>ho i j hi (by rw[←hk i hi];exact u)) λj u=>hr i j hi (by rw[←hk i hi];exact u)⟩
  all_goals grind
theorem aJD (G:OK C σ a w S ρ κ) {t e:TypeId}{k:Nat} (Z:P.underlying t=some (.slice e)) (Y:j5 P e=some k) {x i:Operand}
  (F:rd (evO σ.s) σ.h K (.idxSl k x i)):Ans P S w ρ κ σ.h K (Instr.indexAt t (a.eval x) (a.eval i)):=by
 have H:=G.ev x;have hi:=G.ev i;generalize a.eval x=va at H⊢;generalize a.eval i=vi at hi⊢;simp only[rd] at F;split at F
 .rename_i U l kk n M O;rw[M] at H;rw[O] at hi;obtain rfl:=dD hi;obtain⟨⟨rfl,I,J⟩,L⟩:=F;obtain⟨y,off,cap,rfl,hr⟩:=aMI (xU H) (i:=n.toNat) (by omega);refine⟨_,_,L,?_,.clo hr⟩;simp[Instr.indexAt,asIntOf,run_underlying Z,run_sizeOf Y,I,J,addr_add]
 .rename_i m off len kk n M O;rw[M] at H;rw[O] at hi;obtain rfl:=dD hi;split at F
  .rename_i U l z hb;obtain⟨⟨rfl,I,J⟩,L⟩:=F;obtain⟨hd,V,cap,rfl,_,_,u,_⟩:=iE H _ _ _ hb;obtain⟨y,hy,rfl⟩:=u (by omega);refine⟨_,.pointer (some ⟨y,off*U+n.toNat*U,none⟩),L,?_,.ptr _ _ _ _ λb' ha=>?_⟩
   .simp[Instr.indexAt,asIntOf,run_underlying Z,run_sizeOf Y,I,J,addr_add]
   all_goals grind [Blk.k]
  .exact F.elim
 .exact F.elim
theorem aIq (F:OK C σ a w S ρ κ) {t e:TypeId}{n k:Nat} (U:P.underlying t=some (.array n e)) (O:j5 P e=some k) {x i:Operand}
  (u:rd (evO σ.s) σ.h K (.idxArr n k x i)):Ans P S w ρ κ σ.h K (Instr.indexAt t (a.eval x) (a.eval i)):=by
 have G:=F.ev x;have hi:=F.ev i;generalize a.eval x=va at G⊢;generalize a.eval i=vi at hi⊢;simp only[rd] at u;split at u
 .rename_i c kk m L M;rw[L] at G;rw[M] at hi;obtain rfl:=dD hi;obtain⟨⟨H,I,h2⟩,J⟩:=u;obtain⟨y,o,rfl,hr⟩:=aHn h2 (wG G);refine⟨_,_,J,?_,.clo hr⟩;simp[Instr.indexAt,asIntOf,run_underlying U,run_sizeOf O,H,I,addr_add,Instr.sureAddr]
 .rename_i nm V c kk m L M;rw[L] at G;rw[M] at hi;obtain rfl:=dD hi;split at u
  .rename_i b Y;obtain⟨⟨H,I⟩,J⟩:=u;obtain⟨y,hy,rfl⟩:=eG G b Y;refine⟨_,.pointer (some ⟨y,V*b.k+c+m.toNat*k,none⟩),J,?_,.ptr _ _ _ _ λb' Z=>?_⟩
   .simp[Instr.indexAt,asIntOf,run_underlying U,run_sizeOf O,H,I,addr_add,Instr.sureAddr]
   all_goals grind
  .exact u.elim
 .exact u.elim
theorem aIr (F:OK C σ a w S ρ κ) {t e:TypeId}{n k:Nat}{g:Bool} (O:P.underlying t=some (.array n e)) (M:j5 P e=some k) (L:jB P e=some g) (u:g=false->k=1) {x i:Operand}
  (H:rd (evO σ.s) σ.h K (.idxAgg g n k x i)):Ans P S w ρ κ σ.h K (Instr.index t (a.eval x) (a.eval i)):=by
 have I:=F.ev x;have hi:=F.ev i;generalize a.eval x=va at I⊢;generalize a.eval i=vi at hi⊢;simp only[rd] at H;split at H
 .rename_i c kk m V Y;rw[V] at I;rw[Y] at hi;obtain rfl:=dD hi;obtain⟨⟨J,G,h2⟩,U⟩:=H;obtain⟨vs,rfl,hl,hr⟩:=qN I;refine⟨_,(if g then .agg ((List.range k).map λj=>vs.getD (m.toNat*k+j) undef).toArray else vs.getD (m.toNat*k+0) undef),U,?_,?_⟩
  .cases g with
   | true =>
    simp only[Instr.index,asIntOf,Sem.run_bind,Sem.run_pure,run_underlying O,Result.andThen_ok,J,G,and_self,Bt,run_sizeOf M,part,mP L];congr 2;apply Array.ext (by simp;omega);intro j G h2;simp at G h2;simp[show m.toNat*k+j<vs.size by omega]
   | false =>
    have:=u rfl;subst this;have:vs[m.toNat]? = some (vs.getD m.toNat undef):=by simp[show m.toNat<vs.size by omega]
    simp[Instr.index,asIntOf,run_underlying O,J,G,run_sizeOf M,part,mP L,show m.toNat<vs.size by omega]
  .refine aHk u (by simp;omega) λj Z=>?_
   all_goals grind
 .exact H.elim
theorem aIp (F:OK C σ a w S ρ κ) {t:TypeId} (O:P.underlying t=some .string) {x i:Operand}
  (G:rd (evO σ.s) σ.h K (.idxStr x i)):Ans P S w ρ κ σ.h K (Instr.index t (a.eval x) (a.eval i)):=by
 have H:=F.ev x;have hi:=F.ev i;generalize a.eval x=va at H⊢;generalize a.eval i=vi at hi⊢;simp only[rd] at G;split at G
 .rename_i s V m L M;rw[L] at H;rw[M] at hi;obtain rfl:=dD hi;obtain rfl:=dD H;obtain⟨⟨I,U⟩,J⟩:=G;refine⟨_,_,J,?_,.clo (.v _)⟩;have u:m.toNat<s.size:=by omega
  have e:s[m.toNat]? = some (s.data.toList.getD m.toNat 0):=by
   have:m.toNat<s.data.size:=u;rw[getElem?_pos s m.toNat u];simp;rw[getElem?_pos s.data m.toNat this];rfl
  simp[Instr.index,asIntOf,run_underlying O,I,e]
 .exact G.elim
end
section
variable [Envs]
variable {P:Program}{C:Ctx}{σ:FSt}{a:Act}{w:World}{S:Nat->Prop}{ρ:Name->Option Nat}{κ:Name->Nat}{K:AV->Prop}
theorem aMF (H:OK C σ a w S ρ κ) {op:BinOp}{t:TypeId}{x y:Operand}
  (u:rd (evO σ.s) σ.h K (.bin op x y)):Ans P S w ρ κ σ.h K (do eqGuard op t x y (a.eval x) (a.eval y);binOp op t (a.eval x) (a.eval y)):=by
 have J:=H.ev x;have L:=H.ev y;generalize a.eval x=va at J⊢;generalize a.eval y=vb at L⊢;simp only[rd] at u;split at u
 .rename_i k n U m M O;rw[M] at J;rw[O] at L;obtain rfl:=dD J;obtain rfl:=dD L;have G:(eqGuard op t x y (.int k n) (.int U m)).run P w=.ok () w:=by unfold eqGuard;cases op<;>simp
  unfold aGe at u;cases op<;>simp only at u
  case shl=>exact⟨_,_,u.2,by simp[G,binOp,Op.shift,show ¬m<0 by omega],.clo (.v _)⟩
  case shr=>exact⟨_,_,u.2,by simp[G,binOp,Op.shift,show ¬m<0 by omega],.clo (.v _)⟩
  case quo=>obtain⟨⟨rfl,I⟩,F⟩:=u;exact⟨_,_,F,by simp[G,binOp,Op.intDiv,I],.clo (.v _)⟩
  case rem=>obtain⟨⟨rfl,I⟩,F⟩:=u;exact⟨_,_,F,by simp[G,binOp,Op.intDiv,I],.clo (.v _)⟩
  all_goals(obtain⟨rfl,F⟩:=u;exact⟨_,_,F,by simp[G,binOp,Op.intArith,Op.intCmp,Op.intBits,gG],.clo (.v _)⟩)
 .exact u.elim
theorem aLk (F:OK C σ a w S ρ κ) {op:BinOp}{t:TypeId}{x y:Operand}
  (u:rd (evO σ.s) σ.h K (.binS op x y)):Ans P S w ρ κ σ.h K (do eqGuard op t x y (a.eval x) (a.eval y);binOp op t (a.eval x) (a.eval y)):=by
 have H:=F.ev x;have I:=F.ev y;generalize a.eval x=va at H⊢;generalize a.eval y=vb at I⊢;simp only[rd] at u;split at u
 .rename_i s M J L;rw[J] at H;rw[L] at I;obtain rfl:=dD H;obtain rfl:=dD I;have G:(eqGuard op t x y (.string s) (.string M)).run P w=.ok () w:=by unfold eqGuard;cases op<;>simp
  unfold aBI at u;cases op<;>simp only at u
  case add =>
   have O:IntKind.i64.max=9223372036854775807:=by decide
   exact⟨_,_,u.2,by simp[G,binOp,Op.stringOp];omega,.clo (.v _)⟩
  case eql=>exact⟨_,_,u,by simp[G,binOp,Op.stringOp],.clo (.v _)⟩
  case neq=>exact⟨_,_,u,by simp[G,binOp,Op.stringOp],.clo (.v _)⟩
 .exact u.elim
theorem aLl (F:OK C σ a w S ρ κ) {op:BinOp}{t:TypeId} (U:P.underlying t=some .bool) {x y:Operand}
  (u:rd (evO σ.s) σ.h K (.binB op x y)):Ans P S w ρ κ σ.h K (do eqGuard op t x y (a.eval x) (a.eval y);binOp op t (a.eval x) (a.eval y)):=by
 have H:=F.ev x;have I:=F.ev y;generalize a.eval x=va at H⊢;generalize a.eval y=vb at I⊢;simp only[rd] at u;split at u
 .rename_i s G M O;rw[M] at H;rw[O] at I;obtain rfl:=dD H;obtain rfl:=dD I;have L:(eqGuard op t x y (.bool s) (.bool G)).run P w=.ok () w:=by unfold eqGuard;cases op<;>simp
  unfold zU at u;cases op<;>simp only at u
  all_goals have J:(Op.equal t (.bool s) (.bool G)).run P w=.ok (s==G) w:=run_equalIn_bool' w 9999 t s G U
  case eql=>exact⟨_,_,u,by simp[L,binOp,J],.clo (.v _)⟩
  case neq=>exact⟨_,_,u,by simp[L,binOp,J],.clo (.v _)⟩
 .exact u.elim
theorem rd_un (H:OK C σ a w S ρ κ) {op:UnOp}{x:Operand}
  (F:rd (evO σ.s) σ.h K (.un op x)):Ans P S w ρ κ σ.h K (Op.unary op (a.eval x)):=by
 have u:=H.ev x;generalize a.eval x=va at u⊢;simp only[rd] at F;split at F
 .rename_i b G;rw[G] at u;obtain rfl:=dD u;exact⟨_,_,F,by simp[Op.unary],.clo (.v _)⟩
 .rename_i k n G;rw[G] at u;obtain rfl:=dD u;exact⟨_,_,F,by simp[Op.unary,Op.intArith],.clo (.v _)⟩
 .rename_i k n G;rw[G] at u;obtain rfl:=dD u;exact⟨_,_,F,by simp[Op.unary,Op.intBits,gG],.clo (.v _)⟩
 .exact F.elim
theorem aLj (F:OK C σ a w S ρ κ) {s d:TypeId}{k L:IntKind} (J:P.underlying s=some (.int L)) (I:P.underlying d=some (.int k)) {x:Operand}
  (u:rd (evO σ.s) σ.h K (.conv k x)):Ans P S w ρ κ σ.h K (convert s d (a.eval x)):=by
 have G:=F.ev x;generalize a.eval x=va at G⊢;simp only[rd] at u;split at u
 .rename_i M n H;rw[H] at G;obtain rfl:=dD G;exact⟨_,_,u,by simp[convert,run_underlying J,run_underlying I,Conv.intToInt],.clo (.v _)⟩
 .exact u.elim
theorem aME (J:OK C σ a w S ρ κ) {t ty e:TypeId} (M:P.underlying t=some (.slice e)) {x:Operand}
  (u:rd (evO σ.s) σ.h K (.len x)):Ans P S w ρ κ σ.h K (Builtin.len_ #[t] ty #[a.eval x]):=by
 have G:=J.ev x;generalize a.eval x=va at G⊢
 have F:∀b n c,(Builtin.len_ #[t] ty #[.slice b n c]).run P w=.ok (.int .i64 n) w:=by
  intro b n c;simp[Builtin.len_,run_underlying M,goInt]
 simp only[rd] at u;split at u
 .rename_i k l I;rw[I] at G;cases xU G with
  |sl _ _ H cap x off xs L hcc ho hr hk hcap=>exact⟨_,_,u,F _ _ _,.clo (.v _)⟩
 .rename_i n off len I;rw[I] at G;split at u
  .rename_i k l z L;obtain⟨_,H,cap,rfl,_⟩:=iE G _ _ _ L;exact⟨_,_,u,F _ _ _,.clo (.v _)⟩
  .exact u.elim
 .rename_i b n c I;rw[I] at G;obtain rfl:=dD G;exact⟨_,_,u,F _ _ _,.clo (.v _)⟩
 .exact u.elim
theorem aLg (F:OK C σ a w S ρ κ) {t ty:TypeId} (I:P.underlying t=some .string) {x:Operand}
  (u:rd (evO σ.s) σ.h K (.lenS x)):Ans P S w ρ κ σ.h K (Builtin.len_ #[t] ty #[a.eval x]):=by
 have G:=F.ev x;generalize a.eval x=va at G⊢;simp only[rd] at u;split at u
 .rename_i s H;rw[H] at G;obtain rfl:=dD G;exact⟨_,_,u,by simp[Builtin.len_,run_underlying I,goInt],.clo (.v _)⟩
 .exact u.elim
theorem aLh (v:Value) {t ty e:TypeId}{n:Nat} (u:P.underlying t=some (.array n e))
  (F:rd (evO σ.s) σ.h K (.lenC n)):Ans P S w ρ κ σ.h K (Builtin.len_ #[t] ty #[v]):=by
 refine⟨_,.int .i64 n,F,?_,.clo (.v _)⟩;simp[Builtin.len_,run_underlying u,goInt]
theorem aJn {k:Nat}{l:List (List AV)}{v:Value} (h:RC S w (.sl k l) v) {lo hi:Nat} (M:lo<=hi) (h2:hi<=l.length) :
  ∃ u cap,v=.slice u l.length cap∧l.length<=cap∧
   RC S w (.sl k ((l.take hi).drop lo)) (.slice (if cap=lo then u else u.map (·.add (lo*k))) (hi-lo) (cap-lo)):=by
 cases h with
 | sl _ _ u cap x off xs hb hc ho hr hk hcap =>
  refine⟨u,cap,rfl,hcap.1,?_⟩;have I:((l.take hi).drop lo).length=hi-lo:=by simp;omega
  have G:∀i,i<hi-lo->((l.take hi).drop lo).getD i []=l.getD (lo+i) []:=by
   grind
  have e:∀i j,(lo+i)*k+j=lo*k+(i*k+j):=by intro i j;rw[Du];omega
  have L:=RC.sl (S:=S) (w:=w) k ((l.take hi).drop lo) (if cap=lo then u else u.map (·.add (lo*k))) (cap-lo) x (off+lo*k) (λm=>xs (lo*k+m))
   (λJ=>?_) (λi j F H=>?_) (λi j F H=>?_) (λi j F H=>?_) (λi F=>?_) ?_
  .grind
  .have:0<hi-lo:=by
    grind
   obtain⟨rfl,O⟩:=hb (by rintro rfl;simp at h2;omega)
   all_goals grind [addr_add]
  all_goals grind
def Bnd (ov:Option Value) (dflt:Nat) (n:Nat):Prop:=(ov=none∧n=dflt)∨∃k,ov=some (.int k n)
theorem aAM {t e:TypeId}{k:Nat} (M:P.underlying t=some (.slice e)) (L:j5 P e=some k) {u:Option Addr}{len cap lo hi:Nat}{G F:Option Value}
  (I:Bnd G 0 lo) (H:Bnd F len hi) (J:lo<=hi) (h2:hi<=cap) :
  (Instr.sliceAt t (.slice u len cap) G F none).run P w=.ok (.slice (if cap=lo then u else u.map (·.add (lo*k))) (hi-lo) (cap-lo)) w:=by
 rcases I with⟨rfl,rfl⟩|⟨U,rfl⟩<;>rcases H with⟨rfl,rfl⟩|⟨O,rfl⟩ <;>
  simp[Instr.sliceAt,run_underlying M,Instr.slice,Instr.sliceBounds,Instr.sliceBound,asIntOf,run_sizeOf L,J,h2]
theorem aMD (hf:OK C σ a w S ρ κ) {t e:TypeId}{k:Nat} (hu:P.underlying t=some (.slice e)) (hk:j5 P e=some k) {x:Operand}{F u:Option Operand}
  (G:rd (evO σ.s) σ.h K (.slc k x F u)):Ans P S w ρ κ σ.h K (Instr.sliceAt t (a.eval x) (F.map a.eval) (u.map a.eval) none):=by
 have hx:=hf.ev x;generalize a.eval x=va at hx⊢
 have I:∀(o:Option Operand) (d:Nat),(o=none->Bnd (o.map a.eval) d d)∧(∀V m,o.map (evO σ.s)=some (.v (.int V m))->0<=m->Bnd (o.map a.eval) d m.toNat):=by
  intro o d;refine⟨λh=>by subst h;exact .inl ⟨rfl,rfl⟩,λV m h h0=>?_⟩;cases o with
  |none=>simp at h
  | some o =>
   simp only[Ba,Aj] at h;have:=hf.ev o;rw[h] at this;refine .inr ⟨V,?_⟩;simp only[Ba,dD this,Int.toNat_of_nonneg h0]
 simp only[rd] at G;split at G
 .rename_i k' l hc;rw[hc] at hx
  have H:∀(lo hi:Int),(k'=k∧0<=lo∧lo<=hi∧hi<=l.length)∧K (.sl k ((l.take hi.toNat).drop lo.toNat))->Bnd (F.map a.eval) 0 lo.toNat->Bnd (u.map a.eval) l.length hi.toNat->
    Ans P S w ρ κ σ.h K (Instr.sliceAt t va (F.map a.eval) (u.map a.eval) none):=by
   rintro lo hi ⟨⟨rfl,h0,h1,h2⟩,hK⟩ b1 b2;obtain⟨ha,cap,rfl,he,hr⟩:=aJn (xU hx) (lo:=lo.toNat) (hi:=hi.toNat) (by omega) (by omega);exact⟨_,_,hK,aAM hu hk b1 b2 (by omega) (by omega),.clo hr⟩
  split at G
  .rename_i J L;have Y:F=none:=by cases F<;>simp_all
   have Z:u=none:=by cases u<;>simp_all
   exact H _ _ G (by simpa using(I F 0).1 Y) (by simpa using(I u l.length).1 Z)
  .rename_i V m J L;have Z:u=none:=by cases u<;>simp_all
   exact H _ _ G ((I F 0).2 _ _ J G.1.2.1) (by simpa using(I u l.length).1 Z)
  .rename_i V m J L;have Y:F=none:=by cases F<;>simp_all
   exact H _ _ G (by simpa using(I F 0).1 Y) ((I u l.length).2 _ _ L (by have:=G.1.2.2.1;omega))
  all_goals grind
 .rename_i n off len hc;rw[hc] at hx;split at G
  .rename_i k' l z hd
   have H:∀(lo hi:Int),(k'=k∧0<=lo∧lo<=hi∧hi<=len)∧K (.loc n (off+lo.toNat) (hi-lo).toNat)->Bnd (F.map a.eval) 0 lo.toNat->Bnd (u.map a.eval) len hi.toNat->
     Ans P S w ρ κ σ.h K (Instr.sliceAt t va (F.map a.eval) (u.map a.eval) none):=by
    rintro lo hi ⟨⟨rfl,h0,h1,h2⟩,hK⟩ b1 b2;obtain⟨hn,ha,cap,rfl,hm,he,O,U⟩:=iE hx _ _ _ hd;refine⟨_,_,hK,aAM hu hk b1 b2 (by omega) (by omega),.loc _ _ _ _ λk2 l2 z2 M=>?_⟩;rw[hd] at M;simp only[Aj,Blk.arr.injEq] at M;obtain⟨rfl,rfl,rfl⟩:=M;refine⟨by omega,_,_,by congr 1;omega,by omega,by omega,λhl=>?_,λJ L=>?_⟩
    .obtain⟨y,hy,rfl⟩:=O (by omega);rw[AJ (by omega)];exact⟨y,hy,by simp[addr_add,Du]⟩
    .have el:lo.toNat=0:=by omega
     have eo:off=0:=by omega
     rcases U eo (by omega) with⟨h1,h2,h3⟩|⟨y,hy,hg,hj⟩
     .grind
     .refine .inr ⟨y,hy,?_,by rw[el];exact hj⟩;rw[el,hg];simp[Addr.add]
   split at G
   .rename_i J L;have Y:F=none:=by cases F<;>simp_all
    have Z:u=none:=by cases u<;>simp_all
    exact H _ _ G (by simpa using(I F 0).1 Y) (by simpa using(I u len).1 Z)
   .rename_i V m J L;have Z:u=none:=by cases u<;>simp_all
    exact H _ _ G ((I F 0).2 _ _ J G.1.2.1) (by simpa using(I u len).1 Z)
   .rename_i V m J L;have Y:F=none:=by cases F<;>simp_all
    exact H _ _ G (by simpa using(I F 0).1 Y) ((I u len).2 _ _ L (by have:=G.1.2.2.1;omega))
   all_goals grind
  .exact G.elim
 .exact G.elim
theorem aFe {t:TypeId} (J:P.underlying t=some .string) {s:ByteArray}{lo hi:Nat}{F u:Option Value}
  (H:Bnd F 0 lo) (G:Bnd u s.size hi) (I:lo<=hi) (h2:hi<=s.size) :
  (Instr.sliceAt t (.string s) F u none).run P w=.ok (.string (s.extract lo hi)) w:=by
 rcases H with⟨rfl,rfl⟩|⟨M,rfl⟩<;>rcases G with⟨rfl,rfl⟩|⟨L,rfl⟩ <;>
  simp[Instr.sliceAt,run_underlying J,Instr.slice,Instr.sliceBounds,Instr.sliceBound,asIntOf,I,h2]
theorem aNf (u:OK C σ a w S ρ κ) (o:Option Operand) (d:Nat):(o=none->Bnd (o.map a.eval) d d)∧(∀F m,o.map (evO σ.s)=some (.v (.int F m))->0<=m->Bnd (o.map a.eval) d m.toNat):=by
 refine⟨λh=>by subst h;exact .inl ⟨rfl,rfl⟩,λF m h G=>?_⟩;cases o with
 |none=>simp at h
 | some o =>
  simp only[Ba,Aj] at h;have:=u.ev o
  all_goals grind [dD,Bnd]
theorem aLd (J:OK C σ a w S ρ κ) {t:TypeId} (Z:P.underlying t=some .string) {x:Operand}{F u:Option Operand}
  (G:rd (evO σ.s) σ.h K (.sstr x F u)):Ans P S w ρ κ σ.h K (Instr.sliceAt t (a.eval x) (F.map a.eval) (u.map a.eval) none):=by
 have O:=J.ev x;generalize a.eval x=va at O⊢;have I:=aNf J;simp only[rd] at G;split at G
 .rename_i s Y;rw[Y] at O;obtain rfl:=dD O
  have H:∀(lo hi:Int),(0<=lo∧lo<=hi∧hi<=s.size)∧K (.v (.string (s.extract lo.toNat hi.toNat)))->Bnd (F.map a.eval) 0 lo.toNat->Bnd (u.map a.eval) s.size hi.toNat->
    Ans P S w ρ κ σ.h K (Instr.sliceAt t (.string s) (F.map a.eval) (u.map a.eval) none):=by
   rintro lo hi ⟨⟨h0,h1,h2⟩,hK⟩ b1 b2;exact⟨_,_,hK,aFe Z b1 b2 (by omega) (by omega),.clo (.v _)⟩
  split at G
  .rename_i L M;have U:F=none:=by cases F<;>simp_all
   have V:u=none:=by cases u<;>simp_all
   exact H _ _ G (by simpa using(I F 0).1 U) (by simpa using(I u s.size).1 V)
  .rename_i kk m L M;have V:u=none:=by cases u<;>simp_all
   exact H _ _ G ((I F 0).2 _ _ L G.1.1) (by simpa using(I u s.size).1 V)
  .rename_i kk m L M;have U:F=none:=by cases F<;>simp_all
   exact H _ _ G (by simpa using(I F 0).1 U) ((I u s.size).2 _ _ M (by have:=G.1;omega))
  all_goals grind
 .exact G.elim
theorem aLe (H:OK C σ a w S ρ κ) {o:Oper}{x:Operand} (L:o.op=.nilCheck x) (F:rd (evO σ.s) σ.h K (.nilc x)) :
  ∃I v,K I∧(execOp a.eval o).run P w=.ok (.value v) w∧RV S w ρ κ σ.h I v:=by
 have u:=H.ev x;simp only[execOp,L];generalize a.eval x=va at u⊢;simp only[rd] at F;split at F
 .rename_i c G;rw[G] at u;cases wG u with
  |ro _ y off xs hS hcell hone hr=>exact⟨_,_,F,rfl,u⟩
 .rename_i n e c G;rw[G] at u;split at F
  .rename_i b J;obtain⟨y,M,rfl⟩:=eG u _ J;exact⟨_,_,F,rfl,u⟩
  .exact F.elim
 .rename_i f c G;rw[G] at u;obtain⟨vs,rfl,_⟩:=aDi u;exact⟨_,_,F,rfl,u⟩
 .exact F.elim
theorem aGz (F:OK C σ a w S ρ κ) {x:Operand}{i:Nat} (u:rd (evO σ.s) σ.h K (.extract x i)):Ans P S w ρ κ σ.h K (Instr.extract (a.eval x) i):=by
 have G:=F.ev x;generalize a.eval x=va at G⊢;simp only[rd] at u;split at u
 .rename_i c H;rw[H] at G;obtain⟨vs,rfl,J,I⟩:=aA3 G;refine⟨_,_,u.2,?_,I i u.1⟩;simp[Instr.extract,show i<vs.size by have:=u.1;omega]
 .exact u.elim
theorem aLf (F:OK C σ a w S ρ κ) {f:FuncId}{caps:List Operand} (I:rd (evO σ.s) σ.h K (.mkfn f caps)) :
  Ans P S w ρ κ σ.h K (Instr.makeFunc (.func f) #[] (caps.toArray.map a.eval)):=by
 refine⟨_,_,I,rfl,.fn _ _ _ (by simp) λj u=>?_⟩;simp only[BC] at u;have G:(caps.map (evO σ.s)).getD j .junk=evO σ.s caps[j]:=by simp[List.getD,u]
 have H:(caps.toArray.map a.eval).getD j undef=a.eval caps[j]:=by simp[u]
 rw[G,H];exact F.ev _
theorem aMi (u:OK C σ a w S ρ κ) {mx:Bool}{t:Array TypeId}{T:TypeId}{x y:Operand} (F:rd (evO σ.s) σ.h K (.mm mx x y)) :
  Ans P S w ρ κ σ.h K (if mx then Builtin.max_ t T #[a.eval x,a.eval y] else Builtin.min_ t T #[a.eval x,a.eval y]):=by
 have G:=u.ev x;have H:=u.ev y;generalize a.eval x=va at G⊢;generalize a.eval y=vb at H⊢;simp only[rd] at F;split at F
 .rename_i k n L m I J;rw[I] at G;rw[J] at H;obtain rfl:=dD G;obtain rfl:=dD H;cases mx
  .exact⟨_,_,F,by simp[Builtin.min_,Builtin.min2],.clo (.v _)⟩
  .exact⟨_,_,F,by simp[Builtin.max_,Builtin.max2],.clo (.v _)⟩
 .exact F.elim
end
section
variable [Envs]
variable {P:Program}{C:Ctx}{σ:FSt}{a:Act}{w:World}{S:Nat->Prop}{ρ:Name->Option Nat}{κ:Name->Nat}{K:AV->Prop}{h:Name->Option Blk}
theorem yX {x:AV}{v:Value} (F:RV S w ρ κ h x v) (u:rQ h x=true):v.oneCell'=true:=by
 cases x with
 |v y=>obtain rfl:=dD F;exact u
 |sl k l=>cases xU F;rfl
 |ro c=>cases wG F;rfl
 |fn f c=>obtain⟨vs,rfl,_⟩:=aDi F;rfl
 | loc n off len =>
  simp only[rQ] at u;split at u
  .rename_i G;obtain⟨_,H,cap,rfl,_⟩:=iE F _ _ _ G;rfl
  .cases u
 | ptr n e c =>
  simp only[rQ] at u;obtain⟨b,G⟩:=AQ.1 u;obtain⟨y,_,rfl⟩:=eG F _ G;rfl
 |agg c=>simp[rQ] at u
 |tup c=>simp[rQ] at u
 |junk=>simp[rQ] at u
def Cells (S:Nat->Prop) (w:World) (ρ:Name->Option Nat) (κ:Name->Nat) (h:Name->Option Blk) (c:List AV) (vs:Array Value):Prop:=
 c.length=vs.size∧∀j,j<c.length->RV S w ρ κ h (c.getD j .junk) (vs.getD j undef)
theorem aDx {x:AV}{v:Value} (I:RV S w ρ κ h x v) {c:List AV} (F:kR h x=some c) :
  Cells S w ρ κ h c v.cells∧(∀j,j<c.length->(v.cells.getD j undef).oneCell'=true):=by
 have u:∀x:AV,(rQ h x=true)->RV S w ρ κ h x v->Cells S w ρ κ h [x] v.cells∧(∀j,j < [x].length->(v.cells.getD j undef).oneCell'=true):=by
  intro x J I;have O:=yX I J;have e:v.cells=#[v]:=by cases v<;>simp_all [Value.cells,Value.oneCell']
  rw[e];refine⟨⟨rfl,λj G=>?_⟩,λj G=>?_⟩
  .simp only[A9] at G;obtain rfl:j=0:=by omega
   exact I
  .simp only[A9] at G;obtain rfl:j=0:=by omega
   exact O
 cases x with
 | agg c' =>
  simp only[kR] at F;split at F
  .rename_i H;obtain rfl:=Av F;obtain⟨vs,rfl,M,L⟩:=qN I;refine⟨⟨M,L⟩,λj G=>yX (L j G) ?_⟩;have:=Aw.1 H (c'.getD j .junk) (by simp[List.getD,G]);exact this
  .cases F
 | _ =>
  simp only[kR] at F;split at F
  .rename_i J;obtain rfl:=Av F;exact u _ J I
  .cases F
theorem mG:∀(xs cs:List AV) (o:Nat),(lay cs o xs).length=cs.length
 | [],_,_=>rfl
 |x::r,cs,o=>by rw[lay,mG r];simp
theorem aA9:∀(xs cs:List AV) (o j:Nat),o+xs.length<=cs.length->(lay cs o xs).getD j .junk=if o<=j∧j<o+xs.length then xs.getD (j-o) .junk else cs.getD j .junk
 | [],cs,o,j,_=>by
  have:¬(o<=j∧j<o+([]:List AV).length):=by simp
  rw[lay,AJ this]
 | x::r,cs,o,j,h=>by
  rw[lay,aA9 r _ _ _ (by simp at h⊢;omega)];simp only[Aa] at h⊢;by_cases u:o+1<=j∧j<o+1+r.length
  .rw[AY u,AY (by omega)];have:j-o=(j-(o+1))+1:=by omega
   rw[this];simp
  .rw[AJ u];by_cases h2:j=o
   .subst h2;rw[AY (by omega)];have:j<cs.length:=by omega
    simp[List.getD,this]
   .rw[AJ (by omega)];simp[List.getD,List.getElem?_set_ne (DL h2)]
theorem aAu:∀(l:List Value) (i o:Nat) (cs:Array Value),o+i+l.length<=cs.size->
  ((l.zipIdx i).foldl (λcs (p:Value×Nat)=>cs.setIfInBounds (o+p.2) p.1) cs).size=cs.size∧
  ∀j,((l.zipIdx i).foldl (λcs (p:Value×Nat)=>cs.setIfInBounds (o+p.2) p.1) cs).getD j undef=if o+i<=j∧j<o+i+l.length then l.getD (j-(o+i)) undef else cs.getD j undef
 | [],i,o,cs,_=>⟨rfl,λj=>by
     have:¬(o+i<=j∧j<o+i+([]:List Value).length):=by simp
     rw[AJ this];rfl⟩
 | x::r,i,o,cs,h=>by
  simp only[Aa] at h;obtain⟨G,h2⟩:=aAu r (i+1) o (cs.setIfInBounds (o+i) x) (by simp;omega);simp only[List.zipIdx_cons,List.foldl_cons];refine⟨by rw[G];simp,λj=>?_⟩;rw[h2 j];simp only[Aa];by_cases u:o+(i+1)<=j∧j<o+(i+1)+r.length
  .rw[AY u,AY (by omega)];have:j-(o+i)=(j-(o+(i+1)))+1:=by omega
   rw[this];simp
  .rw[AJ u];by_cases F:j=o+i
   .subst F;rw[AY (by omega)];simp[show o+i<cs.size by omega]
   .rw[AJ (by omega)];simp[CY (DL F)]
theorem getD_toList (vs:Array Value) (j:Nat):vs.toList.getD j undef=vs.getD j undef:=by
 simp[List.getD]
theorem aCz (Y:OK C σ a w S ρ κ) (F:Nat->Option (Nat×Nat)):∀(u:List (Nat×Operand)) (rp:List (Nat×Nat×Operand)) (cs:List AV) (vs:Array Value) {K:List AV->Prop},
  u.map (λp=>(F p.1).map λq=>(q.1,q.2,p.2))=rp.map some->Cells S w ρ κ σ.h cs vs->layAll (evO σ.s) σ.h cs rp K->
  ∃ I H,K I∧Instr.fill F vs (u.map λp=>(p.1,a.eval p.2))=some H∧Cells S w ρ κ σ.h I H∧
   ((∀j,j<vs.size->(vs.getD j undef).oneCell'=true)->∀j,j<H.size->(H.getD j undef).oneCell'=true)
 | [],[],cs,vs,K,_,hc,L=>⟨cs,vs,L,rfl,hc,λh=>h⟩
 | [],_::_,_,_,_,h,_,_=>by simp at h
 |_::_,[],_,_,_,h,_,_=>by simp at h
 | (i,x)::u,(o,n,y)::rp,cs,vs,K,h,hc,L=>by
  simp only[AU,List.cons.injEq] at h;obtain⟨O,h2⟩:=h;cases hp:F i with
  |none=>rw[hp] at O;simp at O
  | some q =>
   rw[hp] at O;simp only[Ba,Aj,AZ] at O;obtain⟨rfl,rfl,rfl⟩:=O;simp only[layAll] at L;split at L
   .rename_i c hg;obtain⟨⟨hn,hm⟩,L⟩:=L;obtain⟨⟨hd,he⟩,Z⟩:=aDx (Y.ev x) hg;obtain⟨hl,hr⟩:=hc;have U:=aAu (a.eval x).cells.toList 0 q.1 vs (by simp;omega);simp only[Cg,BK,←hd] at U
    have J:Cells S w ρ κ σ.h (lay cs q.1 c) (((a.eval x).cells.toList.zipIdx 0).foldl (λcs (p:Value×Nat)=>cs.setIfInBounds (q.1+p.2) p.1) vs):=by
     refine⟨by rw[mG,U.1];exact hl,λj V=>?_⟩;rw[mG] at V;rw[aA9 _ _ _ _ (by omega),U.2 j];by_cases G:q.1<=j∧j<q.1+c.length
     .rw[AY G,AY G,getD_toList];exact he _ (by omega)
     .rw[AJ G,AJ G];exact hr j V
    obtain⟨I,H,ha,M,hb,hk⟩:=aCz Y F u rp _ _ h2 J L;refine⟨I,H,ha,?_,hb,λhv=>hk λj V=>?_⟩
    .have hz:(a.eval x).cells.zipIdx.foldl (λcs (p:Value×Nat)=>cs.setIfInBounds (q.1+p.2) p.1) vs=((a.eval x).cells.toList.zipIdx 0).foldl (λcs (p:Value×Nat)=>cs.setIfInBounds (q.1+p.2) p.1) vs:=by
      rw[←Array.foldl_toList,Array.toList_zipIdx]
     simp only[AU,Instr.fill,hp];rw[AJ (by simp;omega)];rw[←M,←hz]
    .rw[U.1] at V;rw[U.2 j];by_cases G:q.1<=j∧j<q.1+c.length
     .rw[AY G,getD_toList];exact Z _ (by omega)
     .rw[AJ G];exact hv j V
   .exact L.elim
end
section
variable [Envs]
mutual
def mV:AV->Bool
 |.v _=>true
 |.sl _ _=>true
 |.ro _=>true
 |.fn _ c=>tZ c
 |.agg c=>tZ c
 |.tup c=>tZ c
 |_=>false
def tZ:List AV->Bool
 | []=>true
 |x::r=>mV x&&tZ r
end
theorem mU:∀{c:List AV}{j:Nat},tZ c=true->j<c.length->mV (c.getD j .junk)=true
 | [],_,_,hj=>by simp at hj
 |x::r,0,h,_=>by simp[tZ] at h;simpa using h.1
 |x::r,j+1,h,hj=>by simp[tZ] at h;simpa using mU (c:=r) (j:=j) h.2 (by simpa using hj)
variable {P:Program}{C:Ctx}{σ:FSt}{a:Act}{w:World}{S:Nat->Prop}{ρ:Name->Option Nat}{κ:Name->Nat}{h:Name->Option Blk}
theorem RV.closed {x:AV}{v:Value} (G:RV S w ρ κ h x v) (u:mV x=true):RC S w x v:=by
 induction G with
 |junk v=>simp[mV] at u
 |clo G=>exact G
 |loc n off len v hv=>simp[mV] at u
 |ptr n e c v hv=>simp[mV] at u
 |fn f c vs hl hr ih=>simp only[mV] at u;exact .fn f c vs hl λj F=>ih j F (mU u F)
 |agg c vs hl hr ih=>simp only[mV] at u;exact .agg c vs hl λj F=>ih j F (mU u F)
 |tup c vs hl hr ih=>simp only[mV] at u;exact .tup c vs hl λj F=>ih j F (mU u F)
def rowsOf (k:Nat):Nat->List AV->List (List AV)
 |0,_=>[]
 |m+1,cs=>cs.take k::rowsOf k m (cs.drop k)
def al (ev:Operand->AV) (h:Name->Option Blk) (n:Name) (K:AV->Blk->Prop):AOp->Prop
 | .box x=>match kR h (ev x) with
  |some c=>K (.ptr n 0 0) (.var c false)
  |none=>False
 |.alloc z=>z.all (λx=>rQ h x&&mV x)=true∧K (.ptr n 0 0) (.var z false)
 | .bslice k m z parts=>(z.length=k∧m*k<=2 ^ 24∧m<=2 ^ 24∧z.all (rQ h)=true)∧layAll ev h (List.flatten (List.replicate m z)) (parts.map λ(i,x)=>(i*k,k,x)) λcs =>
   tZ cs=true∧K (.loc n 0 m) (.arr k (rowsOf k m cs) false)
 | .mk k bytes z x=>match ev x with
  |.v (.int .i64 i)=>(0<=i∧i*bytes<=2 ^ 47∧i<2 ^ 63∧z.length=k∧z.all (λx=>rQ h x&&mV x)=true)∧K (.loc n 0 i.toNat) (.arr k (List.replicate i.toNat z) false)
  |_=>False
 |_=>False
theorem zP (w:World) (o:Obj):({w with heap:=w.heap.push o}:World).heap[w.heap.size]? = some o:=by simp
theorem OK.addVar (u:OK C σ a w S ρ κ) {n:Name} (O:gW n σ) {c:List AV}{cs:Array Value}{T:TypeId} (I:Cells S w ρ κ σ.h c cs) (M:∀j,j<c.length->(cs.getD j undef).oneCell'=true) (Z:lJ n c=false) :
  ∃ ρ' κ',OK C ⟨σ.s,hput σ.h n (some (.var c false))⟩ a {w with heap:=w.heap.push (.cells cs T)} S ρ' κ'∧
   RV S {w with heap:=w.heap.push (.cells cs T)} ρ' κ' (hput σ.h n (some (.var c false))) (.ptr n 0 0) (.pointer (some ⟨w.heap.size,0,none⟩)):=by
 have F:=Ext.push w (.cells cs T);refine⟨_,_,u.add F O (b:=.var c false) (ox:=some w.heap.size) (kn:=cs.size) (λx Y=>by rw[←Av Y];exact AL _) ?_,?_⟩
 .intro ρ' κ' h' J L U;refine⟨w.heap.size,cs,T,(0,0),J,zP _ _,λj _ G=>by omega,λ_ V=>?_,by simp,L.symm,by rw[I.1];exact AL _,λj G=>⟨M j G,(I.2 j G).mono (λ_ h=>h) (λb H=>F.2.1 b (u.hok.dom b H)) λm hh=>U m ?_⟩⟩
  .exact absurd (u.hok.dom _ V) (Dr _)
  .grind [qY]
 .refine .ptr _ _ _ _ λb H=>?_
  all_goals grind
theorem OK.addArr (u:OK C σ a w S ρ κ) {w':World} (F:Ext w w') {n:Name} (Y:gW n σ) {k:Nat}{l:List (List AV)}{cs:Array Value}{T:TypeId}{fr:Nat×Nat}{x:Nat} (I:w.heap.size<=x) (hx:w'.heap[x]? = some (.cells cs T fr)) (H:aG9 fr cs.size)
  (Z:∀i,i<l.length->(l.getD i []).length=k) (G:l.length*k<=cs.size)
  (O:∀i j,i<l.length->j<k->(cs.getD (i*k+j) undef).oneCell'=true∧RC S w ((l.getD i []).getD j .junk) (cs.getD (i*k+j) undef)) {cap:Nat} (L:l.length<=cap∧cap<2 ^ 63∧cap*k<=cs.size) :
  ∃ ρ' κ',OK C ⟨σ.s,hput σ.h n (some (.arr k l false))⟩ a w' S ρ' κ'∧
   RV S w' ρ' κ' (hput σ.h n (some (.arr k l false))) (.loc n 0 l.length) (.slice (some ⟨x,0,none⟩) l.length cap):=by
 refine⟨_,_,u.add F Y (b:=.arr k l false) (ox:=some x) (kn:=cs.size) (λy hy=>by rw[←Av hy];exact I) ?_,?_⟩
 .intro ρ' κ' h' U V hm;refine⟨Z,.inr ⟨x,cs,T,fr,U,hx,H,λ_ hs=>?_,by simp,V.symm,G,λi j hi M=>⟨(O i j hi M).1,(O i j hi M).2.mono (λ_ h=>h) λb J=>F.2.1 b (u.hok.dom b J)⟩⟩⟩;have:=u.hok.dom _ hs;omega
 .refine .loc _ _ _ _ λk' l' z J=>?_
  all_goals grind [hput]
def Made (P:Program) (C:Ctx) (σ:FSt) (a:Act) (w:World) (S:Nat->Prop) (n:Name) (K:AV->Blk->Prop) (s:Sem Value):Prop:=
 ∃x b v w',K x b∧s.run P w=.ok v w'∧(gW n σ->b.has n=false->∃ρ' κ',OK C ⟨σ.s,hput σ.h n (some b)⟩ a w' S ρ' κ'∧RV S w' ρ' κ' (hput σ.h n (some b)) x v)
variable {K:AV->Blk->Prop}{n:Name}
theorem aNk (u:OK C σ a w S ρ κ) {T:TypeId}{x:Operand} (F:al (evO σ.s) σ.h n K (.box x)):Made P C σ a w S n K (Instr.box T (a.eval x)):=by
 have H:=u.ev x;generalize a.eval x=va at H⊢;simp only[al] at F;split at F
 .rename_i c J;obtain⟨G,I⟩:=aDx H J;refine⟨_,_,.pointer (some ⟨w.heap.size,0,none⟩),{w with heap:=w.heap.push (.cells va.cells T)},F,?_,λL M=>?_⟩
  .simp[Instr.box,newVar,newRow]
  .exact u.addVar L G I (by simpa[Blk.has] using M)
 .exact F.elim
def zOf (P:Program) (t:TypeId):Option (Array Value):=match P.info? t with|some i=>i.zero.map (·.cells)|none=>none
theorem aAL {t:TypeId}{z:Array Value} (h:zOf P t=some z) (w:World):∃v,(zeroValue t).run P w=.ok v w∧v.cells=z:=by
 unfold zOf at h;cases hi:P.info? t with
 |none=>simp[hi] at h
 | some i =>
  simp only[hi] at h;cases hz:i.zero with
  |none=>simp[hz] at h
  |some v=>exact⟨v,by simp[zeroValue,typeInfo,hi,hz],by simpa[hz] using h⟩
theorem tL (cs:Array Value):Cells S w ρ κ h (cs.toList.map λx=>.v x) cs:=by
 refine⟨by simp,λj u=>?_⟩;simp only[BC,BK] at u;simp[List.getD,u];exact .clo (.v _)
theorem aBg {p:AV->Bool}{l:List AV} (h:l.all p=true) {j:Nat} (u:j<l.length):p (l.getD j .junk)=true:=
 Aw.1 h _ (by simp[List.getD,u])
theorem aKU (G:OK C σ a w S ρ κ) {T:TypeId}{z:Array Value} (O:zOf P T=some z) (I:al (evO σ.s) σ.h n K (.alloc (z.toList.map λx=>.v x))):Made P C σ a w S n K (Instr.alloc T true (.tuple #[])):=by
 obtain⟨v,F,rfl⟩:=aAL O w;simp only[al] at I;obtain⟨u,J⟩:=I;refine⟨_,_,.pointer (some ⟨w.heap.size,0,none⟩),{w with heap:=w.heap.push (.cells v.cells T)},J,?_,λL M=>?_⟩
 .simp[Instr.alloc,newVar,newRow,F]
 .refine G.addVar L (tL _) (λj H=>?_) (by simpa[Blk.has] using M);have:=aBg u H;have h2:=(tL (S:=S) (w:=w) (ρ:=ρ) (κ:=κ) (h:=σ.h) v.cells).2 j H
  all_goals grind [yX]
theorem aEg {z:List AV}{k:Nat} (u:z.length=k):∀(m i:Nat),i<m*k->(List.flatten (List.replicate m z)).getD i .junk=z.getD (i%k) .junk
 |0,i,h=>by omega
 | m+1,i,h=>by
  rw[Ai,Al];by_cases hi:i<k
  .grind [Nat.mod_eq_of_lt]
  .have F:0<k:=by
    grind
   have:i%k=(i-k)%k:=by rw[Nat.mod_eq_sub_mod (by omega)]
   rw[this,←aEg u m (i-k) (by rw[Ck] at h;omega)];simp[List.getD,Bv (show z.length<=i by omega),u]
theorem aB1 {z:List AV}{k:Nat} (u:z.length=k) (m:Nat):(List.flatten (List.replicate m z)).length=m*k:=by
 simp[u]
theorem jQ (k:Nat):∀(m:Nat) (cs:List AV),(rowsOf k m cs).length=m
 |0,_=>rfl
 |m+1,cs=>by simp[rowsOf,jQ k m]
theorem xJ (k:Nat):∀(m:Nat) (cs:List AV),cs.length=m*k->∀i,i<m->(((rowsOf k m cs).getD i []).length=k∧∀j,j<k->((rowsOf k m cs).getD i []).getD j .junk=cs.getD (i*k+j) .junk)
 |0,_,_,i,h=>by omega
 | m+1,cs,hl,0,_=>by
  grind [rowsOf]
 | m+1,cs,hl,i+1,h=>by
  rw[Ck] at hl;obtain⟨u,h2⟩:=xJ k m (cs.drop k) (by simp;omega) i (by omega)
  all_goals grind [rowsOf]
theorem sZ (z:Array Value) (m k:Nat) (F:z.size=k) (j:Nat) (G:j<m*k):((Array.range (m*k)).map (z[· % z.size]!)).getD j undef=z.getD (j%k) undef:=by
 have H:0<k:=by
  grind
 have u:j%k<z.size:=by rw[F];exact Nat.mod_lt _ H
 simp[G,F,getElem!_pos z (j%k) u,getElem?_pos z (j%k) u]
theorem aI3 (ha:OK C σ a w S ρ κ) {t e:TypeId}{k m:Nat}{z:Array Value} (hu:P.underlying t=some (.slice e)) (hk:j5 P e=some k) (hz:zOf P e=some z) {u:List (Nat×Operand)}
  (hv:al (evO σ.s) σ.h n K (.bslice k m (z.toList.map λx=>.v x) u)):Made P C σ a w S n K (Instr.buildSlice t m (u.map λp=>(p.1,a.eval p.2)).toArray):=by
 obtain⟨M,hc,rfl⟩:=aAL hz w;simp only[al] at hv;obtain⟨⟨H,hq,hm,hp⟩,hv⟩:=hv;have hd:M.cells.size=k:=by simpa using H
 have hg:Cells S w ρ κ σ.h (List.flatten (List.replicate m (M.cells.toList.map λx=>.v x))) ((Array.range (m*k)).map (M.cells[· % M.cells.size]!)):=by
  refine⟨by rw[aB1 H];simp,λj J=>?_⟩;rw[aB1 H] at J;rw[aEg H m j J,sZ _ _ _ hd _ J]
  have L:0<k:=by
   grind
  exact(tL M.cells).2 _ (by rw[H];exact Nat.mod_lt _ L)
 obtain⟨cs,vs,⟨Z,hK⟩,U,I,hb⟩:=aCz ha (λi=>some (i*k,k)) u _ _ _ (by simp) hg hv
 have G:cs.length=m*k:=by
  have hl:∀(u:List (Nat×Value)) (c c':Array Value),Instr.fill (λi=>some (i*k,k)) c u=some c'->c'.size=c.size:=by
   intro u
   induction u with
   |nil=>intro c c' h;simp[Instr.fill] at h;rw[h]
   | cons p r ih =>
    intro c c' h;simp only[Instr.fill] at h;split at h
    .cases h
    .rename_i O;have:=ih _ _ h;rw[this]
     have ho:p.2.cells.zipIdx.foldl (λcs (q:Value×Nat)=>cs.setIfInBounds (p.1*k+q.2) q.1) c=((p.2.cells.toList.zipIdx 0).foldl (λcs (q:Value×Nat)=>cs.setIfInBounds (p.1*k+q.2) q.1) c):=by
      rw[←Array.foldl_toList,Array.toList_zipIdx]
     have:=(aAu p.2.cells.toList 0 (p.1*k) c (by simp at O⊢;omega)).1;rw[←ho] at this;exact this
  have:=hl _ _ _ U;rw[I.1,this];simp
 have Y:=hb (λj J=>by
   simp only[Array.size_map,Array.size_range] at J;rw[sZ _ _ _ hd _ J]
   have L:0<k:=by
     grind
   have h2:=(tL (S:=S) (w:=w) (ρ:=ρ) (κ:=κ) (h:=σ.h) M.cells).2 (j%k) (by rw[H];exact Nat.mod_lt _ L);exact yX h2 (aBg hp (by rw[H];exact Nat.mod_lt _ L)))
 refine⟨_,_,.slice (some ⟨w.heap.size,0,none⟩) m m,{w with heap:=w.heap.push (.cells vs e)},hK,?_,λhf _=>?_⟩
 .have F:Instr.fill (λi=>some (i*k,k)) ((Array.range (m*k)).map (λi=>(if m*k=0 then #[] else M.cells)[i%(if m*k=0 then(#[]:Array Value) else M.cells).size]!)) (u.map λp=>(p.1,a.eval p.2))=some vs:=by
   grind
  have hn:¬(2 ^ 24<m*k):=by omega
  by_cases h0:m*k=0
  .simp only[h0,Bt] at F;simp[Instr.buildSlice,run_underlying hu,run_sizeOf hk,h0,newRow];simp at F;rw[F];simp
  .simp only[h0,Bg] at F;have:¬16777216<m*k:=by omega
   simp[Instr.buildSlice,run_underlying hu,run_sizeOf hk,newRow,hc,this];rw[AJ h0,F];simp
 .have he:=ha.addArr (w':={w with heap:=w.heap.push (.cells vs e)}) (Ext.push w _) hf (k:=k) (l:=rowsOf k m cs) (cs:=vs) (T:=e) (fr:=(0,0)) (x:=w.heap.size) (cap:=m) (AL _) (zP _ _) (λj _ J=>by omega)
   (λi hi=>(xJ k m cs G i (by rwa [jQ] at hi)).1) (by rw[jQ,←I.1,G];exact AL _) (λi j hi J=>?_) ⟨by rw[jQ];exact AL _,by omega,by rw[←I.1,G];exact AL _⟩
  .rw[jQ] at he;exact he
  .rw[jQ] at hi
   have V:i*k+j<m*k:=by
    have:(i+1)*k<=m*k:=BA k hi;rw[Ck] at this;omega
   refine⟨Y _ (by rw[←I.1,G];exact V),?_⟩;rw[(xJ k m cs G i hi).2 j J];exact(I.2 _ (by rw[G];exact V)).closed (mU Z (by rw[G];exact V))
theorem al_mk (L:OK C σ a w S ρ κ) {t e:TypeId}{i:TypeInfo}{F:Value} (hu:P.underlying t=some (.slice e)) (hi:P.info? e=some i) (hz:i.zero=some F) {x:Operand}
  (U:al (evO σ.s) σ.h n K (.mk i.size i.bytes (F.cells.toList.map λx=>.v x) x)):Made P C σ a w S n K (Instr.makeSlice t (a.eval x) (a.eval x)):=by
 have hx:=L.ev x;generalize a.eval x=va at hx⊢;simp only[al] at U;split at U
 .rename_i m hc;rw[hc] at hx;obtain rfl:=dD hx;obtain⟨⟨h0,h1,h2,V,I⟩,hK⟩:=U;have hb:F.cells.size=i.size:=by simpa using V
  have M:=run_make (P:=P) w t e i F hu hi hz .i64 .i64 m m h0 (by omega) (by rw[Int.mul_comm];omega) (by omega);refine⟨_,_,_,_,hK,M,λhf _=>?_⟩;have ha:∀j,j<m.toNat*i.size->(madeCells F.cells (m.toNat*i.size)).getD j undef=F.cells.getD (j%i.size) undef:=λj G=>sZ _ _ _ hb _ G;have u:(List.replicate m.toNat (F.cells.toList.map λx=>AV.v x)).length=m.toNat:=by simp
  have H:∀j,j<m.toNat->(List.replicate m.toNat (F.cells.toList.map λx=>AV.v x)).getD j []=(F.cells.toList.map λx=>AV.v x):=by
   intro j G;simp[List.getD,G]
  have O:=L.addArr (w':=w.alloc (.cells (madeCells F.cells (m.toNat*i.size)) e)) (Ext.push w _) hf (k:=i.size) (l:=List.replicate m.toNat (F.cells.toList.map λx=>.v x)) (cs:=madeCells F.cells (m.toNat*i.size)) (T:=e) (fr:=(0,0)) (x:=w.heap.size) (cap:=m.toNat) (AL _) (zP _ _) (λj _ G=>by omega)
   (λj G=>by rw[u] at G;rw[H j G];exact V) (by rw[u,size_madeCells];exact AL _) (λp j hp G=>?_) ⟨by rw[u];exact AL _,by omega,by rw[size_madeCells];exact AL _⟩
  .rw[u] at O;exact O
  .rw[u] at hp
   have Z:p*i.size+j<m.toNat*i.size:=by
    have:(p+1)*i.size<=m.toNat*i.size:=BA _ hp;rw[Ck] at this;omega
   rw[ha _ Z,H p hp];have e1:(p*i.size+j)%i.size=j:=by rw[Nat.mul_comm,Nat.mul_add_mod,Nat.mod_eq_of_lt G]
   rw[e1];have J:j<(F.cells.toList.map λx=>AV.v x).length:=by rw[V];exact G
   have h4:=(tL (S:=S) (w:=w) (ρ:=ρ) (κ:=κ) (h:=σ.h) F.cells).2 j J;have Y:=aBg I J;simp only[Au] at Y;exact⟨yX h4 Y.1,h4.closed Y.2⟩
 .exact U.elim
end
section
variable [Envs]
variable {P:Program}{C:Ctx}{σ:FSt}{a:Act}{w:World}{S:Nat->Prop}{ρ:Name->Option Nat}{κ:Name->Nat}{h:Name->Option Blk}
def gV (w:World) (x:Nat) (o:Obj):World:={w with heap:=w.heap.setIfInBounds x o}
theorem sS (w:World) (x:Nat) (o:Obj):(gV w x o).heap.size=w.heap.size:=by simp[gV]
theorem mI (w:World) {x y:Nat} (o:Obj) (u:y≠x):(gV w x o).heap[y]? = w.heap[y]?:=by
 simp[gV,CY (DL u)]
theorem lt_of_heap {w:World}{x:Nat}{o:Obj} (h:w.heap[x]? = some o):x<w.heap.size:=by
 grind
theorem uG {w:World}{x:Nat}{F:Obj} (o:Obj) (u:w.heap[x]? = some F):(gV w x o).heap[x]? = some o:=by
 simp[gV,lt_of_heap u]
def wZ:Array Value->Nat->List Value->Array Value
 |cs,_,[]=>cs
 |cs,o,v::r=>wZ (cs.setIfInBounds o v) (o+1) r
theorem iN:∀(vs:List Value) (cs:Array Value) (o:Nat),(wZ cs o vs).size=cs.size
 | [],_,_=>rfl
 |v::r,cs,o=>by rw[wZ,iN r];simp
theorem vH:∀(vs:List Value) (cs:Array Value) (o j:Nat),o+vs.length<=cs.size->(wZ cs o vs).getD j undef=if o<=j∧j<o+vs.length then vs.getD (j-o) undef else cs.getD j undef
 | [],cs,o,j,_=>by
  grind [wZ]
 | x::r,cs,o,j,h=>by
  simp only[Aa] at h;rw[wZ,vH r _ _ _ (by simp;omega)];simp only[Aa];by_cases u:o+1<=j∧j<o+1+r.length
  .grind
  .rw[AJ u];by_cases h2:j=o
   .subst h2;rw[AY (by omega)];simp[show j<cs.size by omega]
   .rw[AJ (by omega)];simp[CY (DL h2)]
theorem aFc {x o:Nat}{cs:Array Value}{T:TypeId}{fr:Nat×Nat} (u:w.heap[x]? = some (.cells cs T fr)) (v:Value) :
  w.setCell ⟨x,o,none⟩ v=gV w x (.cells (cs.setIfInBounds o v) T fr):=by
 unfold World.setCell gV;congr 1
 all_goals grind
theorem aDI (w:World) (x:Nat) (o u:Obj):gV (gV w x o) x u=gV w x u:=by
 unfold gV;simp
theorem nJ {x o:Nat}{T:TypeId}{fr:Nat×Nat}:∀(vs:List Value) (i:Nat) (cs:Array Value) (w:World),w.heap[x]? = some (.cells cs T fr)->aG9 fr cs.size->
  o+i+vs.length<=cs.size->(∀v∈vs,v.oneCell'=true)->(storeCells ⟨x,o,none⟩ vs i).run P w=.ok () (gV w x (.cells (wZ cs (o+i) vs) T fr))
 | [],i,cs,w,hx,_,_,_=>by
  have:gV w x (.cells cs T fr)=w:=by
   unfold gV;have J:=lt_of_heap hx;have H:w.heap[x]=.cells cs T fr:=by simpa[J] using hx
   congr 1
   all_goals grind
  simp[storeCells,wZ,this]
 | v::r,i,cs,w,hx,ht,hl,H=>by
  simp only[Aa] at hl;have F:w.cell? ⟨x,o+i,none⟩=some (cs.getD (o+i) undef):=cell_of_row hx (by omega)
  have I:w.frozen? ⟨x,o+i,none⟩=false:=by
   grind [World.frozen?,aG9]
  have G:=run_store P w ⟨x,o+i,none⟩ v .plain (H v (by simp));rw[F] at G;simp only[I,A8,Bg] at G;rw[aFc hx] at G;simp only[storeCells,addr_add,Sem.run_bind,G,Result.andThen_ok];have L:=uG (.cells (cs.setIfInBounds (o+i) v) T fr) hx;rw[nJ r (i+1) (cs.setIfInBounds (o+i) v) _ L (by simpa using ht) (by simp;omega) (λu M=>H u (by simp[M])),aDI];rfl
theorem OK.write (u:OK C σ a w S ρ κ) {n:Name}{b I:Blk}{x:Nat}{w':World} (hb:σ.h n=some b) (hx:ρ n=some x) (hS:¬S x) (L:w'.heap.size=w.heap.size)
  (hw:∀y,y≠x->w'.heap[y]? = w.heap[y]?) (Z:w'.os=w.os∧w'.output=w.output) (U:b.same I)
  (ha:∀h',(∀m,gQ ρ ρ κ κ σ.h h' m)->wW S w' ρ κ h' n I):OK C ⟨σ.s,hput σ.h n (some I)⟩ a w' S ρ κ:=by
 have Y:∀m,gQ ρ ρ κ κ σ.h (hput σ.h n (some I)) m:=by
  intro m c G;by_cases J:m=n
  .grind [hput]
  .simp only[hput,J,Bg] at G;exact⟨rfl,rfl,c,G,c.same_refl⟩
 have F:∀y,S y->w'.heap[y]? = w.heap[y]?:=λy H=>hw y (λe=>hS (e ▸ H))
 refine ⟨u.nt,u.defers,λt=>(u.slots t).mono (λ_ h=>h) F λm _=>Y m,⟨λm c G=>?_,λm O y V h2 h3 h4=>?_,λy H=>(by rw[L];exact u.hok.dom y H),u.hok.env.mono (λ_ h=>h) F⟩,
   (by rw[L];exact u.size),λy H J=>?_,λm y V h2=>?_,u.S0,u.Snew,⟨Z.1.trans u.out.1,Z.2.trans u.out.2⟩,λj c G=>?_⟩
 rotate_right
 .grind [Blk.same_trans,OK,hput]
 .by_cases J:m=n
  .grind [hput]
  .simp only[hput,J,Bg] at G;refine(u.hok.blk m c G).mono (λ_ h=>h) (λ_ _ h=>h) F (λy H=>hw y ?_) rfl rfl λO _=>Y O;rintro rfl;exact J (u.hok.inj m n y (by simp[G]) (by simp[hb]) H hx)
 .have M:∀m,(hput σ.h n (some I) m).isSome->(σ.h m).isSome:=by
   grind [hput]
  exact u.hok.inj m O y (M m V) (M O h2) h3 h4
 all_goals grind [hput,OK]
def Blk.setRow:Blk->Nat->List AV->Blk
 |.var _ z,_,r=>.var r z
 |.arr k l z,e,r=>.arr k (l.set e r) z
def Blk.okc:Blk->List AV->Bool
 |.var _ _,_=>true
 |.arr _ _ _,c=>tZ c
def aAv (l:List (List AV)) (off len:Nat) (z:List AV):List (List AV):=l.take off++(List.replicate len z++l.drop (off+len))
theorem tK {l:List (List AV)}{off len:Nat}{z:List AV} (h:off+len<=l.length):(aAv l off len z).length=l.length:=by simp[aAv];omega
theorem aIY (l:List (List AV)) (off:Nat) (z:List AV):aAv l off 0 z=l:=by simp[aAv]
theorem aEm {l:List (List AV)}{off len:Nat}{z:List AV} (h:off+len<=l.length) (i:Nat):(aAv l off len z).getD i []=if off<=i∧i<off+len then z else l.getD i []:=by
 grind [aAv]
def wrC (k:Nat) (z:List AV) (ev:Operand->AV) (h:Name->Option Blk) (X:Operand) (K:(Name->Option Blk)->Prop):Prop:=
 match ev X with
 | .loc n off len=>match h n with
  |some (.arr k' l fz)=>(fz=false∧k'=k∧z.length=k∧(z.all λx=>rQ h x&&mV x)=true∧off+len<=l.length)∧K (hput h n (some (.arr k (aAv l off len z) false)))
  |_=>False
 |_=>False
theorem aMw (I:OK C σ a w S ρ κ) {t e ty:TypeId}{i:TypeInfo}{u:Value} (hu:P.underlying t=some (.slice e)) (hi:P.info? e=some i) (hz:i.zero=some u) {X:Operand}{K:(Name->Option Blk)->Prop}
  (L:wrC i.size (u.cells.toList.map λx=>.v x) (evO σ.s) σ.h X K) :
  ∃h' w',K h'∧(Builtin.clear_ #[t] ty #[a.eval X]).run P w=.ok (.tuple #[]) w'∧OK C ⟨σ.s,h'⟩ a w' S ρ κ:=by
 have hX:=I.ev X;generalize a.eval X=vx at hX⊢;simp only[wrC] at L;split at L
 .rename_i n off len hc;rw[hc] at hX;split at L
  .rename_i k' l fz hb;obtain⟨⟨rfl,rfl,V,hd,G⟩,hK⟩:=L;obtain⟨_,Z,cap,rfl,ht,hr,O,_⟩:=iE hX _ _ _ hb;cases len with
   | zero =>
    refine⟨_,w,hK,?_,?_⟩
    .cases Z<;>simp[Builtin.clear_,run_underlying hu]
    .have:hput σ.h n (some (.arr i.size (aAv l off 0 (u.cells.toList.map λx=>.v x)) false))=σ.h:=by
      funext m
      all_goals grind [aIY,hput]
     rw[this];exact I
   | succ len =>
    obtain⟨x,hx,rfl⟩:=O (by omega);obtain⟨h0,⟨h1,h2⟩|⟨y,M,T',fr,h1,h2,h3,h4,_,h5,h6,h7⟩⟩:=I.hok.blk n _ hb
    .rw[h1] at hx;cases hx
    obtain rfl:=Av (hx.symm.trans h1);have hq:u.cells.size=i.size:=by simpa using V
    have F:(Builtin.zeroCells u.cells (len+1)).size=(len+1)*i.size:=by simp[Builtin.zeroCells,hq]
    have J:∀j,j<(len+1)*i.size->(Builtin.zeroCells u.cells (len+1)).getD j undef=u.cells.getD (j%i.size) undef:=by
     grind [sZ,Builtin.zeroCells]
    have U:∀j,j<i.size->(u.cells.getD j undef).oneCell'=true∧RC S w ((u.cells.toList.map λx=>AV.v x).getD j .junk) (u.cells.getD j undef):=by
     intro j H;have he:j<(u.cells.toList.map λx=>AV.v x).length:=by rw[V];exact H
     have h8:=(tL (S:=S) (w:=w) (ρ:=ρ) (κ:=κ) (h:=σ.h) u.cells).2 j he;have h9:=aBg hd he;simp only[Au] at h9;exact⟨yX h8 h9.1,h8.closed h9.2⟩
    have hg:(off+(len+1))*i.size<=l.length*i.size:=BA _ G;rw[Du] at hg
    have hk:∀v∈(Builtin.zeroCells u.cells (len+1)).toList,v.oneCell'=true:=by
     intro v L;obtain⟨j,H,rfl⟩:=Ct.1 L;simp only[BK,F] at H
     have hm:0<i.size:=by
      grind
     have:=(U (j%i.size) (Nat.mod_lt _ hm)).1;rw[←J j H] at this;have hl:j<(Builtin.zeroCells u.cells (len+1)).size:=by rw[F];exact H
     simpa[hl] using this
    have ho:=nJ (P:=P) (o:=off*i.size) (Builtin.zeroCells u.cells (len+1)).toList 0 M w h2 h3 (by simp only[BK,F];omega) hk;refine⟨_,gV w x (.cells (wZ M (off*i.size+0) (Builtin.zeroCells u.cells (len+1)).toList) T' fr),hK,?_,?_⟩
    rotate_left
    .refine I.write hb hx (h4 rfl) (sS _ _ _) (λy hy=>mI _ _ hy) ⟨rfl,rfl⟩ (by simp[Blk.same,tK G]) λh' hn=>?_;have ha:∀y,S y->(gV w x (.cells (wZ M (off*i.size+0) (Builtin.zeroCells u.cells (len+1)).toList) T' fr)).heap[y]? = w.heap[y]?:=λy hy=>mI _ _ (λe=>h4 rfl (e ▸ hy));refine⟨λp Y=>?_,.inr ⟨x,_,T',fr,hx,uG _ h2,by rw[iN];exact h3,λ_=>h4 rfl,by simp,by rw[iN];exact h5,by rw[iN,tK G];exact h6,λp j Y H=>?_⟩⟩
     .rw[tK G] at Y;rw[aEm G];split
      .exact V
      .exact h0 p Y
     .rw[tK G] at Y;rw[aEm G,vH _ _ _ _ (by simp only[BK,F];omega)];simp only[BK,F,Cg];by_cases hin:off<=p∧p<off+(len+1)
      .have g1:off*i.size<=p*i.size:=BA _ hin.1;have g2:(p+1)*i.size<=(off+(len+1))*i.size:=BA _ hin.2;rw[Ck,Du] at g2;rw[AY hin,AY (by omega)]
       have e1:p*i.size+j-off*i.size=(p-off)*i.size+j:=by
        rw[Nat.sub_mul];omega
       have e2:((p-off)*i.size+j)%i.size=j:=by rw[Nat.mul_comm,Nat.mul_add_mod,Nat.mod_eq_of_lt H]
       have e3:(p-off)*i.size+j<(len+1)*i.size:=by rw[Nat.sub_mul];omega
       have:=J _ e3;rw[e2] at this
       have e4:(Builtin.zeroCells u.cells (len+1)).toList.getD (p*i.size+j-off*i.size) undef=u.cells.getD j undef:=by
        rw[e1,←this,getD_toList]
       rw[e4];exact⟨(U j H).1,(U j H).2.mono (λ_ h=>h) ha⟩
      .have:¬(off*i.size<=p*i.size+j∧p*i.size+j<off*i.size+(len+1)*i.size):=by
        rintro⟨g1,g2⟩;rcases Cw p off with hf|hs
        .have:(p+1)*i.size<=off*i.size:=BA _ hf;rw[Ck] at this;omega
        .have:(off+(len+1))*i.size<=p*i.size:=BA _ (by omega);rw[Du] at this;omega
       rw[AJ hin,AJ this];exact⟨(h7 p j Y H).1,(h7 p j Y H).2.mono (λ_ h=>h) ha⟩
    .simp[Builtin.clear_,run_underlying hu,zeroValue,typeInfo,hi,hz,ho]
  .exact L.elim
 .exact L.elim
def wrS (k:Nat) (ev:Operand->AV) (h:Name->Option Blk) (A X:Operand) (K:(Name->Option Blk)->Prop):Prop:=
 match ev A with
 | .ptr n e c=>match h n,kR h (ev X) with
  |some b,some cs=>(b.fz=false∧0<k∧cs.length=k∧c+k<=(b.row e).length∧b.okc cs=true)∧K (hput h n (some (b.setRow e (lay (b.row e) c cs))))
  |_,_=>False
 |_=>False
theorem aET (l:List (List AV)) (e i:Nat) (r:List AV) (u:e<l.length):(l.set e r).getD i []=if i=e then r else l.getD i []:=by
 grind
theorem aI4 (L:OK C σ a w S ρ κ) {T:TypeId}{k:Nat} (hk:j5 P T=some k) {A X:Operand}{K:(Name->Option Blk)->Prop} (O:wrS k (evO σ.s) σ.h A X K) :
  ∃h' w',K h'∧(Instr.storeAt T (a.eval A) (a.eval X)).run P w=.ok () w'∧OK C ⟨σ.s,h'⟩ a w' S ρ κ:=by
 have hA:=L.ev A;have hX:=L.ev X;generalize a.eval A=va at hA⊢;generalize a.eval X=vx at hX⊢;simp only[wrS] at O;split at O
 .rename_i n e c hc;rw[hc] at hA;split at O
  .rename_i b cs hb hp;obtain⟨⟨hz,hw,hm,Z,hf⟩,hK⟩:=O;obtain⟨⟨Y,hg⟩,M⟩:=aDx hX hp;obtain⟨x,hx,rfl⟩:=eG hA _ hb;have hd:=L.hok.blk n b hb
   have ha:∀v∈vx.cells.toList,v.oneCell'=true:=by
    intro v O;obtain⟨j,J,rfl⟩:=Ct.1 O;simp only[BK] at J;have:=M j (by omega);simpa[J] using this
   have F:∀(u:Array Value) (I:TypeId) (fr:Nat×Nat),w.heap[x]? = some (.cells u I fr)->aG9 fr u.size->e*b.k+c+k<=u.size->
     (Instr.storeAt T (.pointer (some ⟨x,e*b.k+c,none⟩)) vx).run P w=.ok () (gV w x (.cells (wZ u (e*b.k+c) vx.cells.toList) I fr)):=by
    intro u I fr hh ht hq;have hs:=nJ (P:=P) (o:=e*b.k+c) vx.cells.toList 0 u w hh ht (by simp;omega) ha;have:¬(vx.cells.size≠k):=by omega
    simp only[Cg] at hs;simp[Instr.storeAt,Instr.sureAddr,storeVar,run_sizeOf hk,←Y,hm,hs]
   cases b with
   | var rc z =>
    simp only[Blk.fz] at hz;subst hz;obtain⟨y,u,I,fr,h1,h2,h3,U,_,h5,h6,V⟩:=hd;obtain rfl:=Av (hx.symm.trans h1)
    have he:e=0:=by
     cases e with
     |zero=>rfl
     |succ e=>simp[Blk.row] at Z;omega
    subst he;simp only[Blk.row,Blk.k,Nat.mul_zero,BF] at Z F hK⊢;refine⟨_,_,hK,F u I fr h2 h3 (by omega),?_⟩;refine L.write hb hx (U rfl) (sS _ _ _) (λy hy=>mI _ _ hy) ⟨rfl,rfl⟩ (by simp[Blk.same,Blk.setRow,mG]) λh' hn=>?_;have H:∀y,S y->(gV w x (.cells (wZ u c vx.cells.toList) I fr)).heap[y]? = w.heap[y]?:=λy hy=>mI _ _ (λe=>U rfl (e ▸ hy));refine⟨x,wZ u c vx.cells.toList,I,fr,hx,uG _ h2,by rw[iN];exact h3,λ_=>U rfl,by simp,by rw[iN];exact h5,by rw[iN,mG];exact h6,λj J=>?_⟩;rw[mG] at J;rw[aA9 _ _ _ _ (by omega),vH _ _ _ _ (by simp;omega)];simp only[BK,←Y];by_cases G:c<=j∧j<c+cs.length
    .rw[AY G,AY G,getD_toList];exact⟨M _ (by omega),(hg _ (by omega)).mono (λ_ h=>h) H λm _=>hn m⟩
    .rw[AJ G,AJ G];exact⟨(V j J).1,(V j J).2.mono (λ_ h=>h) H λm _=>hn m⟩
   | arr k' l z =>
    simp only[Blk.fz] at hz;subst hz;simp only[Blk.row,Blk.k] at Z F hK⊢
    have he:e<l.length:=by
     grind
    obtain⟨h0,⟨h1,h2⟩|⟨y,u,I,fr,h1,h2,h3,U,_,h5,h6,V⟩⟩:=hd
    .subst h2;simp at he
    obtain rfl:=Av (hx.symm.trans h1);have hr:(l.getD e []).length=k':=h0 e he
    have h8:e*k'+k'<=u.size:=by
     have:(e+1)*k'<=l.length*k':=BA _ he;rw[Ck] at this;omega
    refine⟨_,_,hK,F u I fr h2 h3 (by omega),?_⟩;refine L.write hb hx (U rfl) (sS _ _ _) (λy hy=>mI _ _ hy) ⟨rfl,rfl⟩ (by simp[Blk.same,Blk.setRow]) λh' hn=>?_;have H:∀y,S y->(gV w x (.cells (wZ u (e*k'+c) vx.cells.toList) I fr)).heap[y]? = w.heap[y]?:=λy hy=>mI _ _ (λe=>U rfl (e ▸ hy));refine⟨λi hi=>?_,.inr ⟨x,wZ u (e*k'+c) vx.cells.toList,I,fr,hx,uG _ h2,by rw[iN];exact h3,λ_=>U rfl,by simp,by rw[iN];exact h5,by rw[iN];simpa using h6,λi j hi J=>?_⟩⟩
    .grind [mG]
    .simp only[Ao] at hi;rw[aET _ _ _ _ he,vH _ _ _ _ (by simp;omega)];simp only[BK,←Y];by_cases hl:i=e
     .subst hl;rw[AY rfl,aA9 _ _ _ _ (by omega)];by_cases G:c<=j∧j<c+cs.length
      .rw[AY G,AY (by omega),getD_toList];have e1:i*k'+j-(i*k'+c)=j-c:=by omega
       rw[e1];exact⟨M _ (by omega),((hg _ (by omega)).closed (mU hf (by omega))).mono (λ_ h=>h) H⟩
      .rw[AJ G,AJ (by omega)];exact⟨(V i j hi J).1,(V i j hi J).2.mono (λ_ h=>h) H⟩
     .rw[AJ hl]
      have:¬(e*k'+c<=i*k'+j∧i*k'+j<e*k'+c+cs.length):=by
       rintro⟨g1,g2⟩;rcases Cw i e with ho|hu
       .have:(i+1)*k'<=e*k':=BA _ ho;rw[Ck] at this;omega
       .have:(e+1)*k'<=i*k':=BA _ (by omega);rw[Ck] at this;omega
      rw[AJ this];exact⟨(V i j hi J).1,(V i j hi J).2.mono (λ_ h=>h) H⟩
  .exact O.elim
 .exact O.elim
end
section
variable [Envs]
variable {P:Program}{C:Ctx}{σ:FSt}{a:Act}{w:World}{S:Nat->Prop}{ρ:Name->Option Nat}{κ:Name->Nat}{h:Name->Option Blk}
def scr (n:Name) (x:AV):AV:=if x.has n then .junk else x
def aBl (n:Name):Blk->Blk
 |.var c z=>.var (c.map (scr n)) z
 |b=>b
def qJ (n:Name) (σ:FSt):FSt:=⟨λt=>scr n (σ.s t),λm=>if m=n then none else(σ.h m).map (aBl n)⟩
theorem OK.kill (F:OK C σ a w S ρ κ) (n:Name):OK C (qJ n σ) a w S ρ κ:=by
 have U:∀c:Blk,c.same (aBl n c):=by
  intro c;cases c<;>simp[aBl,Blk.same]
 have Y:∀m,gQ ρ ρ κ κ σ.h (qJ n σ).h m:=by
  intro m I u;simp only[qJ] at u;split at u
  .cases u
  .cases hm:σ.h m with
   |none=>rw[hm] at u;cases u
   | some c =>
    grind
 have O:∀x v,RV S w ρ κ σ.h x v->RV S w ρ κ (qJ n σ).h (scr n x) v:=by
  intro x v hx;unfold scr;split
  .exact .junk _
  .exact hx.mono (λ_ h=>h) (λ_ _=>rfl) λm _=>Y m
 have G:∀m,((qJ n σ).h m).isSome->(σ.h m).isSome:=by
  grind [qJ]
 refine ⟨F.nt,F.defers,λt=>O _ _ (F.slots t),⟨λm I u=>?_,λm Z y H h2 J L=>F.hok.inj m Z y (G m H) (G Z h2) J L,F.hok.dom,F.hok.env⟩,F.size,F.old,
   λm y H h2=>F.mine m y (G m H) h2,F.S0,F.Snew,F.out,λj I u=>?_⟩
 rotate_left
 .obtain⟨_,_,c,H,h2⟩:=Y (.b j) I u
  all_goals grind [Blk.same_trans,OK]
 simp only[qJ] at u;split at u
 .cases u
 .cases hm:σ.h m with
  |none=>rw[hm] at u;cases u
  | some c =>
   rw[hm] at u;simp only[Ba,Aj] at u;subst u;have V:=F.hok.blk m c hm;cases c with
   | var c z =>
    obtain⟨x,cs,T,fr,H,h2,J,L,M,h5,h6,h7⟩:=V;refine⟨x,cs,T,fr,H,h2,J,L,M,h5,by simpa using h6,λj hj=>?_⟩
    all_goals grind
   |arr k l z=>exact V
theorem OK.add2 (u:OK C σ a w S ρ κ) {w':World}{n:Name} (hf:gW n σ) {b:Blk}{ox:Option Nat}{kn:Nat} (U:w.heap.size<=w'.heap.size)
  (hw:∀y,y<w.heap.size->ox≠some y->w'.heap[y]? = w.heap[y]?) (ho:w'.os=w.os∧w'.output=w.output)
  (O:∀x,ox=some x->(∀m,(σ.h m).isSome->ρ m≠some x)∧¬S x∧(C.w0.heap.size<=x∨C.Mut x))
  (hb:∀ρ' κ' h',ρ' n=ox->κ' n=kn->(∀m,m≠n->gQ ρ ρ' κ κ' σ.h h' m)->wW S w' ρ' κ' h' n b) :
  OK C ⟨σ.s,hput σ.h n (some b)⟩ a w' S (λm=>if m=n then ox else ρ m) (λm=>if m=n then kn else κ m):=by
 have hn:∀m,m≠n->gQ ρ (λm=>if m=n then ox else ρ m) κ (λm=>if m=n then kn else κ m) σ.h (hput σ.h n (some b)) m:=by
  intro m L Z J;simp only[hput,L,Bg] at J⊢;exact⟨trivial,trivial,Z,J,Z.same_refl⟩
 have G:∀y,S y->w'.heap[y]? = w.heap[y]?:=λy F=>hw y (u.hok.dom y F) λe=>(O y e).2.1 F;refine⟨u.nt,u.defers,λt=>?_,⟨λm c I=>?_,λm V y Y h2 h3 h4=>?_,λy F=>BR (u.hok.dom y F) U,u.hok.env.mono (λ_ h=>h) G⟩,BJ u.size U,λy F L=>?_,λm y Y h2=>?_,u.S0,u.Snew,⟨ho.1.trans u.out.1,ho.2.trans u.out.2⟩,λj c I=>?_⟩
 rotate_right
 .grind [hput,OK,gW]
 .refine(u.slots t).mono (λ_ h=>h) G λm L=>hn m ?_;rintro rfl;rw[hf.2.1 t] at L;cases L
 .by_cases H:m=n
  .grind [hput]
  .simp only[hput,H,Bg] at I;refine(u.hok.blk m c I).mono (λ_ h=>h) (λ_ _ h=>h) G (λy F=>hw y (u.hok.lt (by simp[I]) F) λe=>(O y e).1 m (by simp[I]) F) (by simp[H]) (by simp[H]) λV M=>hn V ?_;rintro rfl;rw[hf.2.2 m c I] at M;cases M
 .by_cases e1:m=n<;>by_cases e2:V=n
  .rw[e1,e2]
  .grind [hput]
  .grind [hput]
  .simp only[hput,e1,e2,Bg] at Y h2 h3 h4;exact u.hok.inj m V y Y h2 h3 h4
 all_goals grind [hput,OK]
theorem aHm {x:AV}{v:Value} (U:HOK S w ρ κ h) (hx:RV S w ρ κ h x v) {k:Nat}{l:List (List AV)} (H:pJ k h x=some l) :
  ∃ F cap,v=.slice F l.length cap∧(∀i,i<l.length->(l.getD i []).length=k)∧
   ∃b off,(l≠[]->F=some ⟨b,off,none⟩∧b<w.heap.size)∧∀i j,i<l.length->j<k->∃u,w.cell? ⟨b,off+(i*k+j),none⟩=some u∧u.oneCell'=true∧RC S w ((l.getD i []).getD j .junk) u:=by
 unfold pJ at H;split at H
 .rename_i V Y;split at H
  .rename_i O;subst O;obtain rfl:=Av H;cases xU hx with
   | sl _ _ F cap b off xs J hc ho hr O L =>
    exact⟨F,cap,rfl,O,b,off,λI=>⟨(J I).1,U.dom _ (J I).2⟩,λi j hi M=>⟨_,hc i j hi M,ho i j hi M,hr i j hi M⟩⟩
  .cases H
 .rename_i n off len;split at H
  .rename_i V Y z J;split at H
   .rename_i O;subst O;obtain rfl:=Av H;obtain⟨hd,F,cap,rfl,hf,L,ha,_⟩:=iE hx _ _ _ J;have G:((Y.drop off).take len).length=len:=by simp;omega
    have he:∀i,i<len->((Y.drop off).take len).getD i []=Y.getD (off+i) []:=by
     intro i hi;simp[List.getD,hi]
    obtain⟨h0,Z⟩:=U.blk n _ J;refine⟨F,cap,by rw[G],λi hi=>?_,?_⟩
    .grind
    .rcases Z with⟨Z,h2⟩|⟨x,cs,T,fr,Z,h2,h3,h4,_,h5,h6,h7⟩
     .subst h2;simp only[Ab] at hd;exact⟨0,0,λI=>absurd (List.length_eq_zero_iff.1 (by rw[G];omega)) I,λi j hi=>by rw[G] at hi;omega⟩
     .refine⟨x,off*V,λI=>?_,λi j hi M=>?_⟩
      .grind [HOK,RV,pJ]
      .rw[G] at hi;have:=h7 (off+i) j (by omega) M
       have hg:(off+i)*V+j<cs.size:=by
        have:(off+i+1)*V<=Y.length*V:=BA _ (by omega);rw[Ck] at this;omega
       all_goals grind [cell_of_row]
   .cases H
  .cases H
 .obtain rfl:=Av H;obtain rfl:=dD hx;exact⟨none,0,rfl,by simp,0,0,by simp,by simp⟩
 .cases H
def qM (k:Nat) (l:List (List AV)) (m:Nat):AV:=(l.getD (m/k) []).getD (m%k) .junk
theorem aB4 {k n m:Nat} (h:m<n*k):m/k<n∧m%k<k∧m/k*k+m%k=m:=by
 have u:0<k:=by
  grind
 refine⟨(Nat.div_lt_iff_lt_mul u).2 h,Nat.mod_lt _ u,?_⟩
 all_goals grind [Nat.div_add_mod]
structure Reads (S:Nat->Prop) (w:World) (base:Option Addr) (k:Nat) (l:List (List AV)) (f:Nat->Value):Prop where
 rows:∀i,i<l.length->(l.getD i []).length=k
 cell:∀w':World,w'.heap=w.heap->∀m,m<l.length*k->∃b off,base=some ⟨b,off,none⟩∧w'.cell? ⟨b,off+m,none⟩=some (f m)
 one:∀m,m<l.length*k->(f m).oneCell'=true
 rc:∀m,m<l.length*k->RC S w (qM k l m) (f m)
theorem aCO {x:AV}{v:Value} (I:HOK S w ρ κ h) (Z:RV S w ρ κ h x v) {k:Nat}{l:List (List AV)} (U:pJ k h x=some l) :
  ∃F cap f,v=.slice F l.length cap∧Reads S w F k l f:=by
 obtain⟨F,cap,rfl,G,b,off,hb,O⟩:=aHm I Z U;refine⟨F,cap,λm=>(w.cell? ⟨b,off+m,none⟩).getD undef,rfl,G,λw' hw m H=>?_,λm H=>?_,λm H=>?_⟩
 all_goals
  obtain⟨L,h2,M⟩:=aB4 H;obtain⟨u,J,V,Y⟩:=O _ _ L h2;rw[M] at J
 .grind [World.cell?]
 .simp only[J,BS];exact V
 .simp only[J,BS];exact Y
theorem Reads.first {u:Option Addr}{k:Nat}{l:List (List AV)}{f:Nat->Value} (F:Reads S w u k l f) (cap:Nat) {w':World} (G:w'.heap=w.heap) :
  (Builtin.firstCells k l.length (.slice u l.length cap)).run P w'=.ok ((List.range (l.length*k)).map f).toArray w':=by
 cases u with
 | none =>
  have:l.length*k=0:=by
   rcases Nat.eq_zero_or_pos (l.length*k) with h|h
   .exact h
   .obtain⟨_,_,h,_⟩:=F.cell w rfl 0 h;cases h
  simp[Builtin.firstCells,this]
 | some b =>
  grind [Builtin.firstCells,run_loadCells,addr_add,Reads]
theorem xK {k:Nat}{l u:List (List AV)}{m:Nat} (F:m<(l++u).length*k) :
  qM k (l++u) m=if m<l.length*k then qM k l m else qM k u (m-l.length*k):=by
 grind [qM,List.getElem?_append_left,Nat.le_div_iff_mul_le,Nat.mul_comm,Nat.sub_mul_div,Nat.sub_mul_mod]
theorem aBf {k:Nat}{l:List (List AV)}{cs:Array Value} (F:∀m,m<l.length*k->(cs.getD m undef).oneCell'=true∧RC S w (qM k l m) (cs.getD m undef)) :
  ∀i j,i<l.length->j<k->(cs.getD (i*k+j) undef).oneCell'=true∧RC S w ((l.getD i []).getD j .junk) (cs.getD (i*k+j) undef):=by
 intro i j hi G
 have u:i*k+j<l.length*k:=by
  have:(i+1)*k<=l.length*k:=BA _ hi;rw[Ck] at this;omega
 all_goals grind [qM,Nat.mul_comm,Nat.mul_add_div,Nat.div_eq_of_lt,Nat.mul_add_mod,Nat.mod_eq_of_lt]
def aB9 (k:Nat) (h:Name->Option Blk):AV->Option (Option Name×List (List AV))
 |.v (.slice none 0 0)=>some (none,[])
 | .loc n off len=>match h n with
  |some (.arr k' l z)=>if k'=k∧off=0∧len=l.length∧z=false then some (some n,l) else none
  |_=>none
 |_=>none
def aBY:Option Name->FSt->FSt
 |some n,σ=>qJ n σ
 |none,σ=>σ
def wrA (k bytes:Nat) (σ:FSt) (d:Name) (A X:Operand) (K:FSt->AV->Prop):Prop:=
 match aB9 k σ.h (evO σ.s A),pJ k σ.h (evO σ.s X) with
 | some (on,l),some l'=>((l.length+l'.length)*bytes<=2 ^ 47∧l.length+l'.length<2 ^ 62)∧
   K ⟨(aBY on σ).s,hput (aBY on σ).h d (some (.arr k (l++l') false))⟩ (.loc d 0 (l.length+l'.length))
 |_,_=>False
theorem aIa (J:OK C σ a w S ρ κ) {t t2 e e2:TypeId}{ty:TypeId}{i:TypeInfo}{zv:Value} (hu:P.underlying t=some (.slice e)) (qh:P.underlying t2=some (.slice e2)) (hi:P.info? e=some i) (hz:i.zero=some zv) (q2:zv.cells.size=i.size) {A X:Operand}{d:Name}{K:FSt->AV->Prop}
  (hf:∀on l,aB9 i.size σ.h (evO σ.s A)=some (on,l)->gW d (aBY on σ)) (hv:wrA i.size i.bytes σ d A X K) :
  ∃σ' x v w' ρ' κ',K σ' x∧(Builtin.append_ #[t,t2] ty #[a.eval A,a.eval X]).run P w=.ok v w'∧OK C σ' a w' S ρ' κ'∧RV S w' ρ' κ' σ'.h x v:=by
 have hA:=J.ev A;have hX:=J.ev X;generalize a.eval A=va at hA⊢;generalize a.eval X=vx at hX⊢;simp only[wrA] at hv;split at hv
 .rename_i on l u G qz;obtain⟨⟨q6,q8⟩,hK⟩:=hv;have h9:=hf _ _ G;obtain⟨xb,xc,f',rfl,U⟩:=aCO J.hok hX qz
  have hq:∃F cap f,va=.slice F l.length cap∧Reads S w F i.size l f∧cap<2 ^ 63∧
    ((on=none∧F=none∧cap=0∧l=[])∨∃n z,on=some n∧σ.h n=some (.arr i.size l false)∧z=()∧((ρ n=none∧F=none∧cap=0)∨∃x,ρ n=some x∧F=some ⟨x,0,none⟩∧cap*i.size<=κ n)):=by
   unfold aB9 at G;split at G
   .rename_i h8;simp only[Aj,AZ] at G;obtain⟨rfl,rfl⟩:=G;rw[h8] at hA;obtain rfl:=dD hA;exact⟨none,0,λ_=>undef,rfl,⟨by simp,by simp,by simp,by simp⟩,by omega,.inl ⟨rfl,rfl,rfl,rfl⟩⟩
   .rename_i n off len h8;split at G
    .rename_i k' l2 z hb;split at G
     .rename_i h0;obtain⟨rfl,rfl,rfl,rfl⟩:=h0;simp only[Aj,AZ] at G;obtain⟨rfl,rfl⟩:=G;rw[h8] at hA;have qp:pJ i.size σ.h (.loc n 0 l2.length)=some l2:=by simp[pJ,hb]
      obtain⟨F,cap,f,qs,hR⟩:=aCO J.hok hA qp;obtain⟨_,qt,q5,hk,_,ha,_,qa⟩:=iE hA _ _ _ hb;rw[qs] at hk;simp only[Value.slice.injEq,Ci] at hk;obtain⟨rfl,rfl⟩:=hk;exact⟨F,cap,f,qs,hR,ha,.inr ⟨n,(),rfl,hb,rfl,qa rfl rfl⟩⟩
     .cases G
    .cases G
   .cases G
  obtain⟨F,cap,f,rfl,hR,ha,ht⟩:=hq
  have hd:OK C (aBY on σ) a w S ρ κ:=by
   cases on with
   |none=>exact J
   |some n=>exact J.kill n
  have hg:∀j,j<(l++u).length->((l++u).getD j []).length=i.size:=by
   intro j hj;simp only[AC] at hj;by_cases L:j<l.length
   .simpa[List.getD,BB L] using hR.rows j L
   .simpa[List.getD,Bv (Nat.le_of_not_lt L)] using U.rows (j-l.length) (by omega)
  have I:=λw' hw=>U.first (P:=P) xc (w':=w') hw;have hl:=λw' hw=>hR.first (P:=P) cap (w':=w') hw;have H:(l++u).length*i.size=l.length*i.size+u.length*i.size:=by rw[AC,Du]
  have qf:∀v∈(List.range (u.length*i.size)).map f',v.oneCell'=true:=by
   intro v hv;obtain⟨m,V,rfl⟩:=BG.1 hv;exact U.one m (by simpa using V)
  by_cases M:l.length+u.length<=cap
  .-- there is room: the row is written where it lies, or nothing is written
   have hp:F=none->cap=0->l=[]->∃σ' x v w' ρ' κ',K σ' x∧(Builtin.append_ #[t,t2] ty #[.slice F l.length cap,.slice xb u.length xc]).run P w=.ok v w'∧OK C σ' a w' S ρ' κ'∧RV S w' ρ' κ' σ'.h x v:=by
    rintro rfl rfl rfl;obtain rfl:u=[]:=by simpa using M
    have Z:=I w rfl;simp only[Ab,Nat.zero_mul,List.range_zero,Bh] at Z;refine⟨_,_,.slice none 0 0,w,_,_,hK,?_,hd.add2 h9 (b:=.arr i.size [] false) (ox:=none) (kn:=0) (AL _) (λ_ _ _=>rfl) ⟨rfl,rfl⟩ (by simp) (fun ρ' κ' h' e1 e2 _=>⟨by simp,.inl ⟨e1,rfl⟩⟩),?_⟩
    .simp[Builtin.append_,run_underlying hu,run_underlying qh,sizeOf,typeInfo,hi,Builtin.lenOf,Z]
    .refine .loc _ _ _ _ λk' l2 z hb=>?_;simp only[hput,Bt,Aj,Blk.arr.injEq] at hb;obtain⟨rfl,rfl,rfl⟩:=hb;exact⟨by simp,none,0,rfl,by omega,by omega,λh=>absurd h (by simp),λ_ _=>.inl ⟨by simp,rfl,rfl⟩⟩
   rcases ht with⟨rfl,hr,hs,qc⟩|⟨n,_,rfl,hb,_,⟨hρ,hr,hs⟩|⟨x,hρ,rfl,qk⟩⟩
   .exact hp hr hs qc
   .obtain⟨_,⟨_,qc⟩|⟨x,_,_,_,hx,_⟩⟩:=J.hok.blk n _ hb
    .exact hp hr hs qc
    .rw[hρ] at hx;cases hx
   .-- written in place
    obtain⟨q7,⟨L,h2⟩|⟨y,O,T,fr,L,h2,h3,h4,_,h5,h6,h7⟩⟩:=J.hok.blk n _ hb
    .rw[hρ] at L;cases L
    obtain rfl:=Av (hρ.symm.trans L)
    have qm:l.length*i.size+u.length*i.size<=O.size:=by
     rw[h5,←Du];exact BJ (BA _ M) qk
    have qq:=nJ (P:=P) (o:=l.length*i.size) ((List.range (u.length*i.size)).map f') 0 O w h2 h3 (by simp;omega) qf;simp only[Cg] at qq;have Z:=I w rfl;have hS:¬S x:=h4 rfl;have qg:(wZ O (l.length*i.size) ((List.range (u.length*i.size)).map f')).size=O.size:=iN _ _ _;have Y:=λm=>vH ((List.range (u.length*i.size)).map f') O (l.length*i.size) m (by simp;omega);simp only[BC,List.length_range] at Y
    refine ⟨_,_,.slice (some ⟨x,0,none⟩) (l.length+u.length) cap,gV w x (.cells (wZ O (l.length*i.size) ((List.range (u.length*i.size)).map f')) T fr),_,_,hK,?_,
      hd.add2 h9 (b:=.arr i.size (l++u) false) (ox:=some x) (kn:=κ n) (by rw[sS];exact AL _) (λy _ qy=>mI _ _ (λe=>qy (e ▸ rfl))) ⟨rfl,rfl⟩ ?_ ?_,?_⟩
    .simp[Builtin.append_,run_underlying hu,run_underlying qh,sizeOf,typeInfo,hi,Builtin.lenOf,Z,M,addr_add,qq]
    .intro x' q1;obtain rfl:=Av q1;refine⟨λm V he=>?_,hS,J.mine n x (by simp[hb]) hρ⟩;simp only[aBY,qJ] at V;split at V
     .cases V
     .rename_i qx;exact qx (J.hok.inj m n x (by simpa using V) (by simp[hb]) he hρ)
    .intro ρ' κ' h' e1 e2 _;refine⟨hg,.inr ⟨x,_,T,fr,e1,uG _ h2,by rw[qg];exact h3,λ_=>hS,by simp,by rw[qg,h5,e2],by rw[H,qg];exact qm,aBf λm V=>?_⟩⟩;have qi:∀y,S y->(gV w x (.cells (wZ O (l.length*i.size) ((List.range (u.length*i.size)).map f')) T fr)).heap[y]? = w.heap[y]?:=λy hy=>mI _ _ (λe=>hS (e ▸ hy));rw[xK V,Y m];rw[H] at V;by_cases qe:m<l.length*i.size
     .rw[AY qe,AJ (by omega)];obtain⟨g1,g2,g3⟩:=aB4 qe;have:=h7 _ _ g1 g2;rw[g3] at this;exact⟨this.1,this.2.mono (λ_ h=>h) qi⟩
     .rw[AJ qe,AY (by omega)];have qd:m-l.length*i.size<u.length*i.size:=by omega
      have e:((List.range (u.length*i.size)).map f').getD (m-l.length*i.size) undef=f' (m-l.length*i.size):=by simp[List.getD,qd]
      rw[e];exact⟨U.one _ qd,(U.rc _ qd).mono (λ_ h=>h) qi⟩
    .refine .loc _ _ _ _ λk' l2 z qj=>?_;simp only[hput,Bt,Aj,Blk.arr.injEq] at qj;obtain⟨rfl,rfl,rfl⟩:=qj;refine⟨by simp,_,_,rfl,M,ha,λ_=>⟨x,by simp,by simp⟩,λ_ _=>.inr ⟨x,by simp,rfl,by simpa using qk⟩⟩
  .-- it grows
   have qb:cap<l.length+u.length:=by omega
   have Z:=I w.drew rfl;have ql:=hl w.drew rfl;have qv:=growslice_fits (bytes:=i.bytes) qb (by omega);have q4:¬(9223372036854775807<(l.length:Int)+(u.length:Int)):=by omega
   have q3:¬(281474976710656<Builtin.nextslicecap (l.length+u.length) cap*i.bytes):=by omega
   have hn:¬(l.length+u.length<=cap):=by omega
   have qn:=grownCap_ge w (l.length+u.length) cap e;have qw:=grownCap_le_maxLen w (l.length+u.length) cap e (by unfold maxLen;omega);unfold maxLen at qw;have qr:=size_zeroCells zv.cells (grownCap w (l.length+u.length) cap e-(l.length+u.length));generalize hc:((List.range (l.length*i.size)).map f).toArray++((List.range (u.length*i.size)).map f').toArray++Builtin.zeroCells zv.cells (grownCap w (l.length+u.length) cap e-(l.length+u.length))=cs
   have ho:cs.size=grownCap w (l.length+u.length) cap e*i.size:=by
    rw[←hc];simp only[Array.size_append,List.size_toArray,BC,List.length_range,qr,q2];rw[←Du,←Du];congr 1;omega
   have Y:∀m,m<l.length*i.size+u.length*i.size->cs.getD m undef=if m<l.length*i.size then f m else f' (m-l.length*i.size):=by
    intro m V;rw[←hc];by_cases L:m<l.length*i.size
    .rw[AY L];simp[CG,L,show m<l.length*i.size+u.length*i.size by omega]
    .rw[AJ L];simp[CG,V,List.getElem_append,L]
   have qu:Ext w (w.drew.alloc (.cells cs e)):=(Ext.of_heap (w':=w.drew) rfl rfl rfl).trans (Ext.push w.drew _)
   obtain ⟨ρ',κ',qo,q0⟩:=hd.addArr qu h9 (k:=i.size) (l:=l++u) (cs:=cs) (T:=e) (fr:=(0,0)) (x:=w.heap.size) (cap:=grownCap w (l.length+u.length) cap e) (AL _) (zP w.drew _) (λj _ hj=>by omega)
    hg (by rw[ho,AC];exact BA _ qn) (aBf λm V=>by
      rw[xK V];rw[H] at V;rw[Y m V];by_cases L:m<l.length*i.size
      . rw[AY L,AY L];exact⟨hR.one _ L,hR.rc _ L⟩
      . rw[AJ L,AJ L];exact⟨U.one _ (by omega),U.rc _ (by omega)⟩) ⟨by rw[AC];exact qn,by omega,by rw[ho];exact AL _⟩
   refine⟨_,_,_,_,ρ',κ',hK,?_,qo,by rw[←AC];exact q0⟩;simp[Builtin.append_,run_underlying hu,run_underlying qh,sizeOf,typeInfo,zeroValue,hi,hz,Builtin.lenOf,hn,q4,q3,Question.forced,Z,ql,newRow];rw[←hc];exact⟨rfl,by rw[Array.append_assoc];rfl⟩
 .exact hv.elim
end
end Go.Vs
