/- A name is forgotten; append. -/
import Derived.Calls
import Derived.Orders
import Derived.Still
import Derived.Laws.Sem
import Derived.Lib.ItoaNum
import Derived.Laws.Cells
import Derived.Laws.Slices
import GoSem.Dispatch
import Derived.Laws.StructEq
import Derived.Laws.World
import Derived.Laws.MakeOwn
import Derived.Laws.Append
import Derived.Laws.AppendOwn
set_option linter.all false
set_option maxHeartbeats 8000000
namespace Go
theorem A7:type_of% @Option.bind_eq_some_iff:=@Option.bind_eq_some_iff
theorem A8:type_of% @List.getD_eq_getElem?_getD:=@List.getD_eq_getElem?_getD
theorem A9:type_of% @decide_eq_true:=@decide_eq_true
theorem AA:type_of% @Option.isSome_iff_exists:=@Option.isSome_iff_exists
theorem AB:type_of% @beq_eq_false_iff_ne:=@beq_eq_false_iff_ne
theorem AC:type_of% @if_neg:=@if_neg
theorem AJ:type_of% @List.getElem?_cons_zero:=rfl
theorem AL:type_of% @Prod.mk.injEq:=@Prod.mk.injEq
theorem AO:type_of% @Bool.false_eq_true:=@Bool.false_eq_true
theorem AP:type_of% @if_pos:=@if_pos
theorem AQ:type_of% @decide_eq_false:=@decide_eq_false
theorem AR:type_of% @or_false:=@or_false
theorem AU{α:Type _}{β:Type _}(a:α)(f:α->β):(some a).map f=some (f a):=rfl
theorem AX:type_of% @List.length_append:=@List.length_append
theorem AY:type_of% @List.getD_cons_succ:=@List.getD_cons_succ
theorem AZ:type_of% @Nat.lt_of_lt_of_le:=@Nat.lt_of_lt_of_le
theorem Aa:type_of% @List.getElem_mem:=@List.getElem_mem
theorem Ab:type_of% @Option.some.injEq:=@Option.some.injEq
theorem Ac:type_of% @List.length_cons:=rfl
theorem Ad:type_of% @List.set_cons_zero:=rfl
theorem Ae:type_of% @List.cons_append:=rfl
theorem Af:type_of% @List.replicate_succ:=rfl
theorem Ag:type_of% @List.replicate_zero:=rfl
theorem Ah:type_of% @List.take_of_length_le:=@List.take_of_length_le
theorem Ai:type_of% @List.length_nil:=rfl
theorem Aj{α:Type _}(as:List α):[]++as=as:=rfl
theorem Ak:type_of% @List.not_mem_nil:=@List.not_mem_nil
theorem Al:type_of% @List.set_cons_succ:=rfl
theorem Am:type_of% @List.mem_cons:=@List.mem_cons
theorem Ao:type_of% @List.flatten_cons:=rfl
theorem Ap:type_of% @List.length_set:=@List.length_set
theorem Aq:type_of% @List.flatten_nil:=rfl
theorem Ar:type_of% @List.getD_cons_zero:=@List.getD_cons_zero
theorem Au:type_of% @Nat.le_refl:=@Nat.le_refl
theorem Av:type_of% @List.mem_singleton:=@List.mem_singleton
theorem Aw:type_of% @Bool.and_eq_true:=@Bool.and_eq_true
theorem Ay:type_of% @Option.some.inj:=@Option.some.inj
theorem Az:type_of% @List.all_eq_true:=@List.all_eq_true
theorem BA:type_of% @List.take_zero:=rfl
theorem BB:type_of% @Bool.not_eq_true':=@Bool.not_eq_true'
theorem BC:type_of% @List.getElem?_append_left:=@List.getElem?_append_left
theorem BD:type_of% @decide_eq_false_iff_not:=@decide_eq_false_iff_not
theorem BF:type_of% @List.flatMap_cons:=@List.flatMap_cons
theorem BG:type_of% @List.flatMap_nil:=@List.flatMap_nil
theorem BH:type_of% @List.mem_iff_getElem?:=@List.mem_iff_getElem?
theorem BI:type_of% @List.map_nil:=@List.map_nil
theorem BJ:type_of% @List.all_cons:=rfl
theorem BK:type_of% @of_decide_eq_true:=@of_decide_eq_true
theorem BM:type_of% @List.length_take:=@List.length_take
theorem BN:type_of% @List.take_append_drop:=@List.take_append_drop
theorem BO:type_of% @beq_iff_eq:=@beq_iff_eq
theorem BP:type_of% @Array.length_toList:=rfl
theorem BQ:type_of% @false_or:=@false_or
theorem BR(n:Nat):(n:Int).toNat=n:=rfl
theorem BS:type_of% @List.mem_of_getElem?:=@List.mem_of_getElem?
theorem BU:type_of% @of_decide_eq_false:=@of_decide_eq_false
theorem BV:type_of% @Bool.not_true:=@Bool.not_true
theorem BX:type_of% @List.length_pos_iff:=@List.length_pos_iff
theorem BZ:type_of% @List.mem_iff_getElem:=@List.mem_iff_getElem
theorem Ba:type_of% @List.getElem?_eq_getElem:=@List.getElem?_eq_getElem
theorem Bb:type_of% @decide_eq_true_eq:=@decide_eq_true_eq
theorem Bc:type_of% @if_false:=@if_false
theorem Bd:type_of% @Nat.le_of_ble_eq_true:=@Nat.le_of_ble_eq_true
theorem Be:type_of% @List.append_nil:=@List.append_nil
theorem Bf:type_of% @List.take_succ_cons:=rfl
theorem Bg:type_of% @List.mem_append:=@List.mem_append
theorem Bh:type_of% @List.length_map:=@List.length_map
theorem Bi:type_of% @List.getElem?_append_right:=@List.getElem?_append_right
theorem Bj:type_of% @if_true:=@if_true
theorem Bl:type_of% @Nat.le_trans:=@Nat.le_trans
theorem Bn:type_of% @Nat.mul_le_mul_right:=@Nat.mul_le_mul_right
theorem Bo:type_of% @List.pairwise_append:=@List.pairwise_append
theorem Bp:type_of% @List.getElem?_cons_succ:=rfl
theorem Bq:type_of% @List.mem_map:=@List.mem_map
theorem Bt:type_of% @List.map_cons:=@List.map_cons
theorem Bu:type_of% @List.map_append:=@List.map_append
theorem Bv:type_of% @List.eq_nil_of_length_eq_zero:=@List.eq_nil_of_length_eq_zero
theorem Bw:type_of% @List.take_length:=@List.take_length
theorem Bz:type_of% @List.append_assoc:=@List.append_assoc
theorem C8:type_of% @List.mem_cons_of_mem:=@List.mem_cons_of_mem
theorem C9:type_of% @List.getElem?_set_ne:=@List.getElem?_set_ne
theorem CB:type_of% @List.getElem?_eq_some_iff:=@List.getElem?_eq_some_iff
theorem CE:type_of% @List.mem_of_mem_take:=@List.mem_of_mem_take
theorem CG:type_of% @List.map_take:=@List.map_take
theorem CJ:type_of% @List.map_drop:=@List.map_drop
theorem CL:type_of% @Array.getElem?_setIfInBounds_ne:=@Array.getElem?_setIfInBounds_ne
theorem CQ{α:Type _}{β:Type _}(a:α)(f:α->Option β):(some a).bind f=f a:=rfl
theorem CU:type_of% @List.map_toArray:=@List.map_toArray
theorem CV:type_of% @List.Perm.append_right:=@List.Perm.append_right
theorem CW:type_of% @Bool.true_and:=@Bool.true_and
theorem CX:type_of% @List.mem_append_right:=@List.mem_append_right
theorem CY:type_of% @Nat.add_mul:=@Nat.add_mul
theorem CZ:type_of% @List.mem_of_mem_drop:=@List.mem_of_mem_drop
theorem Ca:type_of% @Nat.zero_add:=@Nat.zero_add
theorem Cb:type_of% @List.map_map:=@List.map_map
theorem Cc:type_of% @Option.getD_some:=rfl
theorem Ce:type_of% @List.drop_zero:=@List.drop_zero
theorem Cf:type_of% @List.length_singleton:=rfl
theorem Cg:type_of% @List.length_drop:=@List.length_drop
theorem Ch:type_of% @Nat.succ_mul:=@Nat.succ_mul
theorem Ci:type_of% @List.drop_eq_getElem_cons:=@List.drop_eq_getElem_cons
theorem Cj:type_of% @List.drop_succ_cons:=@List.drop_succ_cons
theorem Ck:type_of% @true_and:=@true_and
theorem Cm:type_of% @congrArg:=@congrArg
theorem Cn:type_of% @Nat.add_assoc:=@Nat.add_assoc
theorem Co:type_of% @List.mem_range:=@List.mem_range
theorem Cq:type_of% @List.mem_append_left:=@List.mem_append_left
theorem Cr:type_of% @Option.map_eq_some_iff:=@Option.map_eq_some_iff
theorem Cs:type_of% @Bool.not_false:=@Bool.not_false
theorem Ct:type_of% @Bool.or_eq_true:=@Bool.or_eq_true
theorem Cu(n:Nat):n+0=n:=rfl
theorem Cv:type_of% @List.getElem?_map:=@List.getElem?_map
theorem Cw:type_of% @Nat.sub_self:=@Nat.sub_self
theorem Cx:type_of% @List.pairwise_cons:=@List.pairwise_cons
theorem Cy:type_of% @List.set_append_right:=@List.set_append_right
theorem Cz:type_of% @Array.getElem?_append:=@Array.getElem?_append
theorem DC:type_of% @List.getElem_map:=@List.getElem_map
theorem DF:type_of% @List.filter_cons:=@List.filter_cons
theorem DI:type_of% @List.range_eq_range':=@List.range_eq_range'
theorem DJ:type_of% @Nat.zero_lt_one:=@Nat.zero_lt_one
theorem DL:type_of% @List.all_nil:=rfl
theorem DN:type_of% @Ne.symm:=@Ne.symm
theorem Da:type_of% @Array.getElem?_eq_some_iff:=@Array.getElem?_eq_some_iff
theorem Db:type_of% @Nat.lt_or_ge:=@Nat.lt_or_ge
theorem Dc:type_of% @List.map_set:=@List.map_set
theorem De:type_of% @List.drop_length:=@List.drop_length
theorem Df:type_of% @List.rel_of_pairwise_cons:=@List.rel_of_pairwise_cons
theorem Dg:type_of% @List.pairwise_iff_getElem:=@List.pairwise_iff_getElem
theorem Dh:type_of% @Nat.lt_irrefl:=@Nat.lt_irrefl
theorem Di:type_of% @Bool.false_or:=@Bool.false_or
theorem Dj:type_of% @List.range_succ:=@List.range_succ
theorem Dm:type_of% @List.mem_filter:=@List.mem_filter
theorem Dn:type_of% @List.mem_cons_self:=@List.mem_cons_self
theorem Dp:type_of% @List.getElem?_drop:=@List.getElem?_drop
theorem Dr:type_of% @Option.none_or:=rfl
theorem Du:type_of% @List.findIdx?_eq_some_iff_getElem:=@List.findIdx?_eq_some_iff_getElem
theorem Dv:type_of% @List.take_succ_eq_append_getElem:=@List.take_succ_eq_append_getElem
theorem Dw:type_of% @List.mem_range'_1:=@List.mem_range'_1
theorem Dx:type_of% @List.length_pos_of_mem:=@List.length_pos_of_mem
theorem Dy:type_of% @Classical.not_not:=@Classical.not_not
theorem Dz:type_of% @List.mem_flatMap:=@List.mem_flatMap
end Go
namespace Go.Vs
section
class Envs where
 l:List (Nat×(Option Obj->Prop))
def envs [Envs]:List (Nat×(Option Obj->Prop)):=Envs.l
end
section
variable [Envs]
inductive Name where
 |b (j:Nat)
 |t (slot j:Nat)
 deriving DecidableEq
inductive AV where
 |v (x:Value)
 |sl (k:Nat) (l:List (List AV))
 |ro (c:List AV)
 |loc (n:Name) (off len:Nat)
 |ptr (n:Name) (e c:Nat)
 |fn (f:FuncId) (caps:List AV)
 |agg (c:List AV)
 |tup (c:List AV)
 |junk
 deriving Inhabited
inductive Blk where
 |var (c:List AV) (fz:Bool)
 |arr (k:Nat) (l:List (List AV)) (fz:Bool)
def Blk.k:Blk->Nat
 |.var _ _=>0
 |.arr k _ _=>k
def Blk.fz:Blk->Bool
 |.var _ z=>z
 |.arr _ _ z=>z
def Blk.same:Blk->Blk->Prop
 |.var c _,.var c' _=>c.length=c'.length
 |.arr k l _,.arr k' l' _=>k=k'∧l.length=l'.length
 |_,_=>False
theorem Blk.same_refl (b:Blk):b.same b:=by cases b<;>simp[Blk.same]
theorem Blk.same_trans {a b c:Blk} (h:a.same b) (h':b.same c):a.same c:=by
 grind [Blk.same,Blk]
theorem Blk.same_k {a b:Blk} (h:a.same b):a.k=b.k:=by
 grind [Blk.same,Blk.k,Blk]
inductive RC (S:Nat->Prop) (w:World):AV->Value->Prop
 |v (x:Value):RC S w (.v x) x
 | sl (k:Nat) (l:List (List AV)) (base:Option Addr) (cap x off:Nat) (xs:Nat->Value)
   (hb:l≠[]->base=some ⟨x,off,none⟩∧S x)
   (hc:∀i j,i<l.length->j<k->w.cell? ⟨x,off+(i*k+j),none⟩=some (xs (i*k+j)))
   (ho:∀i j,i<l.length->j<k->(xs (i*k+j)).oneCell'=true)
   (hr:∀i j,i<l.length->j<k->RC S w ((l.getD i []).getD j .junk) (xs (i*k+j)))
   (hk:∀i,i<l.length->(l.getD i []).length=k)
   (hcap:l.length<=cap∧cap<2 ^ 63):RC S w (.sl k l) (.slice base l.length cap)
 | ro (c:List AV) (x off:Nat) (xs:Nat->Value) (hS:S x)
   (hc:∀j,j<c.length->w.cell? ⟨x,off+j,none⟩=some (xs j))
   (ho:∀j,j<c.length->(xs j).oneCell'=true)
   (hr:∀j,j<c.length->RC S w (c.getD j .junk) (xs j)):RC S w (.ro c) (.pointer (some ⟨x,off,none⟩))
 | fn (f:FuncId) (c:List AV) (vs:Array Value) (hl:c.length=vs.size)
   (hr:∀j,j<c.length->RC S w (c.getD j .junk) (vs.getD j undef)):RC S w (.fn f c) (.func (.func f) #[] vs)
 | agg (c:List AV) (vs:Array Value) (hl:c.length=vs.size)
   (hr:∀j,j<c.length->RC S w (c.getD j .junk) (vs.getD j undef)):RC S w (.agg c) (.agg vs)
 | tup (c:List AV) (vs:Array Value) (hl:c.length=vs.size)
   (hr:∀j,j<c.length->RC S w (c.getD j .junk) (vs.getD j undef)):RC S w (.tup c) (.tuple vs)
theorem cell?_of_block {w w':World}{b off:Nat} (h:w'.heap[b]? = w.heap[b]?):w'.cell? ⟨b,off,none⟩=w.cell? ⟨b,off,none⟩:=by
 simp[World.cell?,h]
theorem RC.mono {S S':Nat->Prop}{w w':World} (H:∀b,S b->S' b) (I:∀b,S b->w'.heap[b]? = w.heap[b]?) {x:AV}{v:Value} (h:RC S w x v):RC S' w' x v:=by
 induction h with
 |v x=>exact .v x
 | sl k l base cap x off xs hb hc ho hr hk hcap ih =>
  by_cases F:l=[]
  .subst F;exact .sl k [] base cap x off xs (by simp) (by simp) (by simp) (by simp) (by simp) hcap
  .refine .sl k l base cap x off xs (λh=>⟨(hb h).1,H _ (hb h).2⟩) (λi j hi G=>?_) ho ih hk hcap;rw[cell?_of_block (I _ (hb F).2)];exact hc i j hi G
 | ro c x off xs hx hc ho hr ih =>
  refine .ro c x off xs (H _ hx) (λj G=>?_) ho ih;rw[cell?_of_block (I _ hx)];exact hc j G
 |fn f c vs F hr ih=>exact .fn f c vs F ih
 |agg c vs F hr ih=>exact .agg c vs F ih
 |tup c vs F hr ih=>exact .tup c vs F ih
mutual
def AV.has (n:Name):AV->Bool
 |.loc m _ _=>decide (m=n)
 |.ptr m _ _=>decide (m=n)
 |.fn _ c=>mD n c
 |.agg c=>mD n c
 |.tup c=>mD n c
 |_=>false
def mD (n:Name):List AV->Bool
 | []=>false
 |x::r=>x.has n||mD n r
end
theorem sJ {n:Name}:∀{c:List AV}{j:Nat},mD n c=false->(c.getD j .junk).has n=false
 | [],j,_=>by simp[AV.has]
 |x::r,0,h=>by simp[mD] at h;simpa using h.1
 |x::r,j+1,h=>by simp[mD] at h;simpa using sJ (c:=r) (j:=j) h.2
def Blk.has (n:Name):Blk->Bool
 |.var c _=>mD n c
 |.arr _ _ _=>false
/-! ## the open reading -/
def aAz (ρ:Name->Option Nat) (κ:Name->Nat) (h:Name->Option Blk) (n:Name) (off len:Nat) (v:Value):Prop:=
 ∀ k l z,h n=some (.arr k l z)->off+len<=l.length∧∃base cap,v=.slice base len cap∧len<=cap∧cap<2 ^ 63∧
  (0<len->∃x,ρ n=some x∧base=some ⟨x,off*k,none⟩)∧
  (off=0->len=l.length->(ρ n=none∧base=none∧cap=0)∨∃x,ρ n=some x∧base=some ⟨x,0,none⟩∧cap*k<=κ n)
def aEW (ρ:Name->Option Nat) (h:Name->Option Blk) (n:Name) (e c:Nat) (v:Value):Prop:=
 ∀b,h n=some b->∃x,ρ n=some x∧v=.pointer (some ⟨x,e*b.k+c,none⟩)
inductive RV (S:Nat->Prop) (w:World) (ρ:Name->Option Nat) (κ:Name->Nat) (h:Name->Option Blk):AV->Value->Prop
 |junk (v:Value):RV S w ρ κ h .junk v
 |clo {x:AV}{v:Value} (hx:RC S w x v):RV S w ρ κ h x v
 |loc (n:Name) (off len:Nat) (v:Value) (hv:aAz ρ κ h n off len v):RV S w ρ κ h (.loc n off len) v
 |ptr (n:Name) (e c:Nat) (v:Value) (hv:aEW ρ h n e c v):RV S w ρ κ h (.ptr n e c) v
 | fn (f:FuncId) (c:List AV) (vs:Array Value) (hl:c.length=vs.size)
   (hr:∀j,j<c.length->RV S w ρ κ h (c.getD j .junk) (vs.getD j undef)):RV S w ρ κ h (.fn f c) (.func (.func f) #[] vs)
 | agg (c:List AV) (vs:Array Value) (hl:c.length=vs.size)
   (hr:∀j,j<c.length->RV S w ρ κ h (c.getD j .junk) (vs.getD j undef)):RV S w ρ κ h (.agg c) (.agg vs)
 | tup (c:List AV) (vs:Array Value) (hl:c.length=vs.size)
   (hr:∀j,j<c.length->RV S w ρ κ h (c.getD j .junk) (vs.getD j undef)):RV S w ρ κ h (.tup c) (.tuple vs)
def gW (ρ ρ':Name->Option Nat) (κ κ':Name->Nat) (h h':Name->Option Blk) (n:Name):Prop:=
 ∀b',h' n=some b'->ρ' n=ρ n∧κ' n=κ n∧∃b,h n=some b∧b.same b'
theorem aAz.mono {ρ ρ':Name->Option Nat}{κ κ':Name->Nat}{h h':Name->Option Blk}{n:Name}{off len:Nat}{v:Value}
  (G:gW ρ ρ' κ κ' h h' n) (H:aAz ρ κ h n off len v):aAz ρ' κ' h' n off len v:=by
 intro k l z F
 all_goals grind [Blk.same,Blk,gW,aAz]
theorem aEW.mono {ρ ρ':Name->Option Nat}{κ κ':Name->Nat}{h h':Name->Option Blk}{n:Name}{e c:Nat}{v:Value}
  (F:gW ρ ρ' κ κ' h h' n) (G:aEW ρ h n e c v):aEW ρ' h' n e c v:=by
 grind [Blk.same_k,gW,aEW]
theorem RV.mono {S S':Nat->Prop}{w w':World}{ρ ρ':Name->Option Nat}{κ κ':Name->Nat}{h h':Name->Option Blk}
  (J:∀b,S b->S' b) (M:∀b,S b->w'.heap[b]? = w.heap[b]?) {x:AV}{v:Value}
  (I:RV S w ρ κ h x v) (H:∀n,x.has n=true->gW ρ ρ' κ κ' h h' n):RV S' w' ρ' κ' h' x v:=by
 have G:∀c:List AV,∀j,j<c.length->∀n,(c.getD j .junk).has n=true->mD n c=true:=by
  grind [sJ]
 induction I with
 |junk v=>exact .junk v
 |clo I=>exact .clo (I.mono J M)
 |loc n off len v hv=>exact .loc n off len v (hv.mono (H n (by simp[AV.has])))
 |ptr n e c v hv=>exact .ptr n e c v (hv.mono (H n (by simp[AV.has])))
 |fn f c vs hl hr ih=>exact .fn f c vs hl λj F=>ih j F λn hh=>H n (by simpa[AV.has] using G c j F n hh)
 |agg c vs hl hr ih=>exact .agg c vs hl λj F=>ih j F λn hh=>H n (by simpa[AV.has] using G c j F n hh)
 |tup c vs hl hr ih=>exact .tup c vs hl λj F=>ih j F λn hh=>H n (by simpa[AV.has] using G c j F n hh)
/-! ## the blocks -/
def aHY (fr:Nat×Nat) (n:Nat):Prop:=∀j,j<n->¬(fr.1<=j∧j<fr.2)
def xU (S:Nat->Prop) (w:World) (ρ:Name->Option Nat) (κ:Name->Nat) (h:Name->Option Blk) (n:Name):Blk->Prop
 | .var c z=>∃x cs T fr,ρ n=some x∧w.heap[x]? = some (.cells cs T fr)∧aHY fr cs.size∧(z=false->¬S x)∧(z=true->S x)∧cs.size=κ n∧
   c.length<=cs.size∧∀j,j<c.length->(cs.getD j undef).oneCell'=true∧RV S w ρ κ h (c.getD j .junk) (cs.getD j undef)
 | .arr k l z=>(∀i,i<l.length->(l.getD i []).length=k)∧((ρ n=none∧l=[])∨∃x cs T fr,ρ n=some x∧w.heap[x]? = some (.cells cs T fr)∧aHY fr cs.size∧
     (z=false->¬S x)∧(z=true->S x)∧cs.size=κ n∧l.length*k<=cs.size∧
     ∀i j,i<l.length->j<k->(cs.getD (i*k+j) undef).oneCell'=true∧RC S w ((l.getD i []).getD j .junk) (cs.getD (i*k+j) undef))
def Env (S:Nat->Prop) (w:World):Prop:=∀p,p∈envs->S p.1∧p.2 w.heap[p.1]?
class Tab (g:Nat) (p:Option Obj->Prop) extends Envs where
 has:∀S w,@Env toEnvs S w->S g∧p w.heap[g]?
theorem Env.mono {S S':Nat->Prop}{w w':World} (h:Env S w) (G:∀b,S b->S' b) (H:∀b,S b->w'.heap[b]? = w.heap[b]?):Env S' w':=
 λp F=>⟨G _ (h p F).1,by rw[H _ (h p F).1];exact(h p F).2⟩
structure HOK (S:Nat->Prop) (w:World) (ρ:Name->Option Nat) (κ:Name->Nat) (h:Name->Option Blk):Prop where
 blk:∀n b,h n=some b->xU S w ρ κ h n b
 inj:∀n m x,(h n).isSome->(h m).isSome->ρ n=some x->ρ m=some x->n=m
 dom:∀b,S b->b<w.heap.size
 env:Env S w
theorem xU.mono {S S':Nat->Prop}{w w':World}{ρ ρ':Name->Option Nat}{κ κ':Name->Nat}{h h':Name->Option Blk}{n:Name}{b:Blk}
  (O:∀b,S b->S' b) (J:∀x,ρ n=some x->S' x->S x) (hw:∀b,S b->w'.heap[b]? = w.heap[b]?)
  (hb:xU S w ρ κ h n b) (hx:∀x,ρ n=some x->w'.heap[x]? = w.heap[x]?) (e1:ρ' n=ρ n) (e2:κ' n=κ n)
  (hn:∀m,b.has m=true->gW ρ ρ' κ κ' h h' m):xU S' w' ρ' κ' h' n b:=by
 cases b with
 | var c z =>
  obtain⟨x,cs,T,fr,F,h2,U,V,G,Y,Z,I⟩:=hb;refine⟨x,cs,T,fr,by rw[e1];exact F,by rw[hx x F];exact h2,U,λH hs=>V H (J _ F hs),λH=>O _ (G H),by rw[e2];exact Y,Z,λj M=>⟨(I j M).1,(I j M).2.mono O hw λm hm=>hn m ?_⟩⟩
  all_goals grind [Blk.has,sJ]
 | arr k l z =>
  obtain⟨h0,h⟩:=hb;refine⟨h0,?_⟩;rcases h with⟨F,h2⟩|⟨x,cs,T,fr,F,h2,U,V,G,Y,Z,I⟩
  .grind
  .exact .inr ⟨x,cs,T,fr,by rw[e1];exact F,by rw[hx x F];exact h2,U,λH hs=>V H (J _ F hs),λH=>O _ (G H),by rw[e2];exact Y,Z,λi j hi M=>⟨(I i j hi M).1,(I i j hi M).2.mono O hw⟩⟩
end
section
def powP:Option Obj->Prop:=λo=>∃T fr,o=some (.cells (Lib.pow10Tab.map λz=>Value.int .u64 z).toArray T fr)
theorem Tab.at {g:Nat}{p:Option Obj->Prop} [h:Tab g p] {S:Nat->Prop}{w:World} (F:Env S w):S g∧p w.heap[g]?:=h.has S w F
end
section
variable [Envs]
structure FSt where
 s:Nat->AV
 h:Name->Option Blk
structure Ctx where
 nt:Nat
 w0:World
 S0:Nat->Prop
 Mut:Nat->Prop
 ρ0:Nat->Option Nat:=λ_=>none
 κ0:Nat->Nat:=λ_=>0
 h0:Nat->Option Blk:=λ_=>none
structure OK (C:Ctx) (σ:FSt) (a:Act) (w:World) (S:Nat->Prop) (ρ:Name->Option Nat) (κ:Name->Nat):Prop where
 nt:a.tmps.size=C.nt
 defers:a.defers=[]
 slots:∀t,RV S w ρ κ σ.h (σ.s t) (a.tmps.getD t undef)
 hok:HOK S w ρ κ σ.h
 size:C.w0.heap.size<=w.heap.size
 old:∀b,b<C.w0.heap.size->¬C.Mut b->w.heap[b]? = C.w0.heap[b]?
 mine:∀n x,(σ.h n).isSome->ρ n=some x->C.w0.heap.size<=x∨C.Mut x
 S0:∀b,C.S0 b->S b
 Snew:∀b,S b->C.S0 b∨C.w0.heap.size<=b∨C.Mut b
 out:w.os=C.w0.os∧w.output=C.w0.output
 keep:∀j b,σ.h (.b j)=some b->ρ (.b j)=C.ρ0 j∧κ (.b j)=C.κ0 j∧∃b0,C.h0 j=some b0∧b0.same b
def upd (s:Nat->AV) (d:Option Nat) (x:AV):Nat->AV:=
 match d with
 |some d=>λt=>if t=d then x else s t
 |none=>s
def hput (h:Name->Option Blk) (n:Name) (b:Option Blk):Name->Option Blk:=λm=>if m=n then b else h m
theorem OK.put {C:Ctx}{σ:FSt}{a:Act}{w:World}{S:Nat->Prop}{ρ:Name->Option Nat}{κ:Name->Nat} (F:OK C σ a w S ρ κ) {x:AV}{v:Value}
  (I:RV S w ρ κ σ.h x v) {d:Option Nat} (G:∀d',d=some d'->d'<C.nt):OK C ⟨upd σ.s d x,σ.h⟩ (a.put d v) w S ρ κ:=by
 cases d with
 |none=>exact F
 | some d =>
  have G:=G d rfl;refine{F with nt:=by simp[Act.put,F.nt],defers:=by simp[Act.put,F.defers],slots:=λt=>?_};simp only[upd,Act.put];by_cases H:t=d
  .subst H;have:t<a.tmps.size:=by rw[F.nt];exact G
   simp only[Bj];have e:(a.tmps.setIfInBounds t v).getD t undef=v:=by simp[this]
   rw[e];exact I
  .simp only[H,Bc]
   have e:(a.tmps.setIfInBounds d v).getD t undef=a.tmps.getD t undef:=by
    simp[CL (DN H)]
   rw[e];exact F.slots t
def Ext (w w':World):Prop:=w.heap.size<=w'.heap.size∧(∀b,b<w.heap.size->w'.heap[b]? = w.heap[b]?)∧w'.os=w.os∧w'.output=w.output
theorem Ext.of_heap {w w':World} (h:w'.heap=w.heap) (F:w'.os=w.os) (h2:w'.output=w.output):Ext w w':=⟨by rw[h];exact Au _,λ_ _=>by rw[h],F,h2⟩
theorem Ext.push (w:World) (o:Obj):Ext w {w with heap:=w.heap.push o}:=
 ⟨by simp,λb F=>by simp[Array.getElem?_push,Nat.ne_of_lt F],rfl,rfl⟩
theorem Ext.trans {w G H:World} (h:Ext w G) (h':Ext G H):Ext w H:=
 ⟨Bl h.1 h'.1,λb F=>by rw[h'.2.1 b (AZ F h.1),h.2.1 b F],h'.2.2.1.trans h.2.2.1,h'.2.2.2.trans h.2.2.2⟩
theorem gW.refl (ρ:Name->Option Nat) (κ:Name->Nat) (h:Name->Option Blk) (n:Name):gW ρ ρ κ κ h h n:=
 λF G=>⟨rfl,rfl,F,G,F.same_refl⟩
theorem HOK.lt {S:Nat->Prop}{w:World}{ρ:Name->Option Nat}{κ:Name->Nat}{h:Name->Option Blk} (F:HOK S w ρ κ h) {n:Name}{x:Nat}
  (I:(h n).isSome) (M:ρ n=some x):x<w.heap.size:=by
 obtain⟨b,H⟩:=AA.1 I;have:=F.blk n b H
 have J:∀{x:Nat}{cs:Array Value}{T:TypeId}{fr:Nat×Nat},w.heap[x]? = some (.cells cs T fr)->x<w.heap.size:=by
  grind
 cases b with
 | var c z =>
  obtain⟨y,cs,T,fr,G,h2,_⟩:=this
  all_goals grind
 | arr k l z =>
  obtain⟨_,⟨G,_⟩|⟨y,cs,T,fr,G,h2,_⟩⟩:=this
  all_goals grind
theorem HOK.ext {S:Nat->Prop}{w w':World}{ρ:Name->Option Nat}{κ:Name->Nat}{h:Name->Option Blk} (F:HOK S w ρ κ h) (H:Ext w w'):HOK S w' ρ κ h where
 blk n b G:=(F.blk n b G).mono (λ_ h=>h) (λ_ _ h=>h) (λb G=>H.2.1 b (F.dom b G)) (λx I=>H.2.1 x (F.lt (by simp[G]) I)) rfl rfl (λm _=>gW.refl _ _ _ _)
 inj:=F.inj
 dom b G:=AZ (F.dom b G) H.1
 env:=F.env.mono (λ_ h=>h) λb G=>H.2.1 b (F.dom b G)
theorem OK.ext {C:Ctx}{σ:FSt}{a:Act}{w w':World}{S:Nat->Prop}{ρ:Name->Option Nat}{κ:Name->Nat} (hok:OK C σ a w S ρ κ) (he:Ext w w'):OK C σ a w' S ρ κ where
 nt:=hok.nt
 defers:=hok.defers
 slots t:=(hok.slots t).mono (λ_ h=>h) (λb hb=>he.2.1 b (hok.hok.dom b hb)) (λn _=>gW.refl _ _ _ _)
 hok:=hok.hok.ext he
 size:=Bl hok.size he.1
 old b hb hm:=by rw[he.2.1 b (AZ hb hok.size)];exact hok.old b hb hm
 mine:=hok.mine
 S0:=hok.S0
 Snew:=hok.Snew
 out:=⟨he.2.2.1.trans hok.out.1,he.2.2.2.trans hok.out.2⟩
 keep:=hok.keep
def gY (n:Name) (σ:FSt):Prop:=(σ.h n=none∧∀j,n≠.b j)∧(∀t,(σ.s t).has n=false)∧∀m b,σ.h m=some b->b.has n=false
theorem OK.add {C:Ctx}{σ:FSt}{a:Act}{w w':World}{S:Nat->Prop}{ρ:Name->Option Nat}{κ:Name->Nat} (hok:OK C σ a w S ρ κ) (he:Ext w w')
  {n:Name} (hf:gY n σ) {b:Blk}{ox:Option Nat}{kn:Nat} (hd:∀x,ox=some x->w.heap.size<=x)
  (hb:∀ρ' κ' h',ρ' n=ox->κ' n=kn->(∀m,m≠n->gW ρ ρ' κ κ' σ.h h' m)->xU S w' ρ' κ' h' n b) :
  OK C ⟨σ.s,hput σ.h n (some b)⟩ a w' S (λm=>if m=n then ox else ρ m) (λm=>if m=n then kn else κ m):=by
 have hn:∀m,m≠n->gW ρ (λm=>if m=n then ox else ρ m) κ (λm=>if m=n then kn else κ m) σ.h (hput σ.h n (some b)) m:=by
  intro m J U M;simp only[hput,J,Bc] at M⊢;exact⟨trivial,trivial,U,M,U.same_refl⟩
 have F:=hok.ext he
 have G:∀j c,hput σ.h n (some b) (.b j)=some c->(if Name.b j=n then ox else ρ (.b j))=C.ρ0 j∧(if Name.b j=n then kn else κ (.b j))=C.κ0 j∧∃V,C.h0 j=some V∧V.same c:=by
  grind [hput,OK,gY]
 refine{F with slots:=λt=>?_,hok:=⟨λm c hc=>?_,λm O x I h2 h3 h4=>?_,F.hok.dom,F.hok.env⟩,mine:=λm x I h2=>?_,keep:=G}
 .refine(F.slots t).mono (λ_ h=>h) (λ_ _=>rfl) λm J=>hn m ?_;rintro rfl;rw[hf.2.1 t] at J;cases J
 .by_cases H:m=n
  .grind [hput]
  .simp only[hput,H,Bc] at hc;refine(F.hok.blk m c hc).mono (λ_ h=>h) (λ_ _ h=>h) (λ_ _=>rfl) (λ_ _=>rfl) (by simp[H]) (by simp[H]) λO ha=>hn O ?_
   all_goals grind [gY]
 .have hg:∀m x,m≠n->(hput σ.h n (some b) m).isSome->(if m=n then ox else ρ m)=some x->x<w.heap.size:=by
   intro m x J I h2;simp only[hput,J,Bc] at I h2;exact hok.hok.lt I h2
  by_cases Y:m=n<;>by_cases Z:O=n
  .rw[Y,Z]
  .grind
  .grind
  .simp only[hput,Y,Z,Bc] at I h2 h3 h4;exact hok.hok.inj m O x I h2 h3 h4
 all_goals grind [hput,OK]
/-! ## operands -/
def AV.ofValue:Value->AV
 |.agg cs=>.agg (cs.toList.map λx=>.v x)
 |x=>.v x
def evO (s:Nat->AV):Operand->AV
 |.tmp t=>s t
 |.const v=>.ofValue v
 |.global _=>.junk
 |.func f=>.fn f []
theorem aKT {S:Nat->Prop}{w:World} (cs:Array Value):RC S w (.agg (cs.toList.map λx=>.v x)) (.agg cs):=by
 refine .agg _ _ (by simp) λj F=>?_;simp only[Bh,BP] at F;simp[List.getD,F];exact .v _
theorem OK.ev {C:Ctx}{σ:FSt}{a:Act}{w:World}{S:Nat->Prop}{ρ:Name->Option Nat}{κ:Name->Nat} (F:OK C σ a w S ρ κ) (x:Operand) :
  RV S w ρ κ σ.h (evO σ.s x) (a.eval x):=by
 cases x with
 |tmp t=>exact F.slots t
 |const v=>cases v<;>first|exact .clo (aKT _)|exact .clo (.v _)
 |global g=>exact .junk _
 |func f=>exact .fn f [] #[] rfl (by simp)
end
section
variable [Envs]
inductive AOp where
 |mv (x:Operand)
 |pick (c a b:Operand)
 |load (g:Bool) (k:Nat) (a:Operand)
 |fieldAddr (off:Nat) (x:Operand)
 |loadV (g:Bool) (k:Nat) (a:Operand)
 |fieldV (off:Nat) (x:Operand)
 |field (g:Bool) (off k:Nat) (x:Operand)
 |idxSl (k:Nat) (x i:Operand)
 |idxArr (n k:Nat) (x i:Operand)
 |idxAgg (g:Bool) (n k:Nat) (x i:Operand)
 |idxStr (x i:Operand)
 |bin (op:BinOp) (x y:Operand)
 |binS (op:BinOp) (x y:Operand)
 |binB (op:BinOp) (x y:Operand)
 |un (op:UnOp) (x:Operand)
 |conv (k:IntKind) (x:Operand)
 |b2s (x:Operand)
 |eqA (neg:Bool) (ks:List Nat) (x y:Operand)
 |idxB (x y:Operand)
 |len (x:Operand)
 |lenS (x:Operand)
 |lenC (n:Nat)
 |slc (k:Nat) (x:Operand) (lo hi:Option Operand)
 |sstr (x:Operand) (lo hi:Option Operand)
 |nilc (x:Operand)
 |extract (x:Operand) (i:Nat)
 |build (z:List AV) (parts:List (Nat×Nat×Operand))
 |mkfn (f:FuncId) (caps:List Operand)
 |mm (mx:Bool) (x y:Operand)
 |box (x:Operand)
 |alloc (z:List AV)
 |bslice (k n:Nat) (z:List AV) (parts:List (Nat×Operand))
 |mk (k bytes:Nat) (z:List AV) (n:Operand)
 |call (f:Operand) (args:List Operand) (bor:List Nat)
 |store (k:Nat) (a x:Operand)
 |append (k bytes:Nat) (a x:Operand)
 |appendC (k bytes:Nat) (a x:Operand)
 |bsliceC (k n:Nat) (z:List AV) (parts:List (Nat×Operand))
 |clr (k:Nat) (z:List AV) (x:Operand)
 deriving Inhabited
def tH (h:Name->Option Blk):AV->Bool
 |.v x=>x.oneCell'
 |.sl _ _=>true
 |.ro _=>true
 |.fn _ _=>true
 |.loc n _ _=>match h n with|some (.arr _ _ _)=>true|_=>false
 |.ptr n _ _=>(h n).isSome
 |_=>false
def lV (h:Name->Option Blk):AV->Option (List AV)
 |.agg c=>if c.all (tH h) then some c else none
 |x=>if tH h x then some [x] else none
def AV.mk (g:Bool) (c:List AV):AV:=if g then .agg c else c.headD .junk
def Blk.row:Blk->Nat->List AV
 |.var c _,0=>c
 |.var _ _,_+1=>[]
 |.arr _ l _,e=>l.getD e []
def fU (op:BinOp) (k:IntKind) (a b:Int):Int:=
 let x:=BitVec.ofInt k.bits a
 let y:=BitVec.ofInt k.bits b
 k.wrap (match op with|.and=>x &&& y|.or=>x ||| y|.xor=>x ^^^ y|_=>x &&& ~~~y).toNat
def aGV (op:BinOp) (k k':IntKind) (a b:Int) (K:AV->Prop):Prop:=
 match op with
 |.add=>k=k'∧K (.v (.int k (k.wrap (a+b))))
 |.sub=>k=k'∧K (.v (.int k (k.wrap (a-b))))
 |.mul=>k=k'∧K (.v (.int k (k.wrap (a*b))))
 |.quo=>(k=k'∧b≠0)∧K (.v (.int k (k.wrap (a.tdiv b))))
 |.rem=>(k=k'∧b≠0)∧K (.v (.int k (a.tmod b)))
 |.eql=>k=k'∧K (.v (.bool (a==b)))
 |.neq=>k=k'∧K (.v (.bool (a != b)))
 |.lss=>k=k'∧K (.v (.bool (a<b)))
 |.leq=>k=k'∧K (.v (.bool (a<=b)))
 |.gtr=>k=k'∧K (.v (.bool (a>b)))
 |.geq=>k=k'∧K (.v (.bool (a≥b)))
 |.shl=>0<=b∧K (.v (.int k (k.wrap (a*2 ^ (min b.toNat k.bits)))))
 |.shr=>0<=b∧K (.v (.int k (a.fdiv (2 ^ (min b.toNat k.bits)))))
 |.and=>k=k'∧K (.v (.int k (fU .and k a b)))
 |.or=>k=k'∧K (.v (.int k (fU .or k a b)))
 |.xor=>k=k'∧K (.v (.int k (fU .xor k a b)))
 |.andNot=>k=k'∧K (.v (.int k (fU .andNot k a b)))
def aB6 (op:BinOp) (x y:ByteArray) (K:AV->Prop):Prop:=
 match op with
 |.add=>x.size+y.size<=9223372036854775807∧K (.v (.string (x++y)))
 |.eql=>K (.v (.bool (x.toList==y.toList)))
 |.neq=>K (.v (.bool (!(x.toList==y.toList))))
 |_=>False
def aAs (op:BinOp) (x y:Bool) (K:AV->Prop):Prop:=
 match op with
 |.eql=>K (.v (.bool (x==y)))
 |.neq=>K (.v (.bool (!(x==y))))
 |_=>False
def lay:List AV->Nat->List AV->List AV
 |cs,_,[]=>cs
 |cs,o,x::r=>lay (cs.set o x) (o+1) r
def layAll (ev:Operand->AV) (h:Name->Option Blk):List AV->List (Nat×Nat×Operand)->(List AV->Prop)->Prop
 |cs,[],K=>K cs
 | cs,(o,n,x)::r,K=>match lV h (ev x) with
  |some c=>(c.length=n∧o+n<=cs.length)∧layAll ev h (lay cs o c) r K
  |none=>False
def eqV:Nat->Value->Value->Option Bool
 |0,.int k a,.int k' b=>if k=k' then some (a==b) else none
 |1,.bool a,.bool b=>some (a==b)
 |2,.string a,.string b=>some (a.toList==b.toList)
 |_,_,_=>none
def eqC:List Nat->List AV->List AV->Option Bool
 | [],[],[]=>some true
 | k::ks,.v x::r,.v y::s=>match eqV k x y,eqC ks r s with
  |some a,some b=>some (a&&b)
  |_,_=>none
 |_,_,_=>none
def qQ (k:Nat) (h:Name->Option Blk):AV->Option (List (List AV))
 |.sl k' l=>if k'=k then some l else none
 | .loc n off len=>match h n with
  |some (.arr k' l _)=>if k'=k then some ((l.drop off).take len) else none
  |_=>none
 |.v (.slice none 0 0)=>some []
 |_=>none
inductive Tag {α:Type} (a:α):Type where
 |x
 |y
def Br (b:Bool) (A B:Prop) (_:Tag (A,B)):Prop:=(b=true->A)∧(b=false->B)
theorem aNB {A B:Prop}{t:Tag (A,B)}:Br true A B t↔A:=⟨λh=>h.1 rfl,λh=>⟨λ_=>h,λh=>(by cases h)⟩⟩
theorem aMj {A B:Prop}{t:Tag (A,B)}:Br false A B t↔B:=⟨λh=>h.2 rfl,λh=>⟨λh=>(by cases h),λ_=>h⟩⟩
theorem Br.mk {b:Bool}{A B:Prop}{t:Tag (A,B)} (F:b=true->A) (h2:b=false->B):Br b A B t:=⟨F,h2⟩
theorem Br.get {b:Bool}{A B:Prop}{t:Tag (A,B)} (h:Br b A B t):(b=true->A)∧(b=false->B):=h
def BrW (b want:Bool) (A B:Prop):Prop:=match want with
 |true=>Br b A B .x
 |false=>Br b B A .x
theorem l8 {b F:Bool}{A B:Prop}:BrW b F A B↔(b=F->A)∧(b = !F->B):=by
 cases F
 .exact⟨λh=>⟨h.2,h.1⟩,λh=>⟨h.2,h.1⟩⟩
 .exact⟨λh=>⟨h.1,h.2⟩,λh=>⟨h.1,h.2⟩⟩
def tJ:List (List AV)->Option (List Int)
 | []=>some []
 | [.v (.int .u8 n)]::r=>match tJ r with
  |some l=>some (n::l)
  |none=>none
 |_=>none
def aAk (s:ByteArray) (c:Int):Int:=match(List.range s.size).find? λi=>s[i]! == c.toNat.toUInt8 with
 |some i=>i
 |none=>-1
def jD (ns:List Int):ByteArray:=⟨(ns.map λn=>UInt8.ofNat n.toNat).toArray⟩
def tF:AV->Bool
 |.v _=>true
 |_=>false
def rd (ev:Operand->AV) (h:Name->Option Blk) (K:AV->Prop):AOp->Prop
 |.mv x=>K (ev x)
 | .pick c a b=>match ev c with
  |.v (.bool t)=>Br t (K (ev a)) (K (ev b)) .x
  |_=>False
 | .load g k a=>match ev a with
  |.ro c=>k<=c.length∧K (.mk g (c.take k))
  | .ptr n e c=>match h n with
   |some b=>c+k<=(b.row e).length∧K (.mk g (((b.row e).drop c).take k))
   |none=>False
  |_=>False
 | .fieldAddr off x=>match ev x with
  | .ptr n e c=>match h n with
   |some _=>K (.ptr n e (c+off))
   |none=>False
  |.ro c=>off<=c.length∧K (.ro (c.drop off))
  |_=>False
 | .loadV g k a=>match ev a with
  | .ptr n e c=>match h n with
   |some (.var cs z)=>(c+k<=((Blk.var cs z).row e).length∧(!g||((((Blk.var cs z).row e).drop c).take k).all tF)=true)∧K (.mk g ((((Blk.var cs z).row e).drop c).take k))
   |_=>False
  |_=>False
 | .fieldV off x=>match ev x with
  | .ptr n e c=>match h n with
   |some (.var _ _)=>K (.ptr n e (c+off))
   |_=>False
  |_=>False
 | .field g off k x=>match ev x with
  |.agg c=>off+k<=c.length∧K (.mk g ((c.drop off).take k))
  |_=>False
 | .idxSl k x i=>match ev x,ev i with
  |.sl k' l,.v (.int _ i)=>(k'=k∧0<=i∧i<l.length)∧K (.ro (l.getD i.toNat []))
  | .loc n off len,.v (.int _ i)=>match h n with
   |some (.arr k' _ _)=>(k'=k∧0<=i∧i<len)∧K (.ptr n (off+i.toNat) 0)
   |_=>False
  |_,_=>False
 | .idxArr n k x i=>match ev x,ev i with
  |.ro c,.v (.int _ i)=>(0<=i∧i<n∧i.toNat*k<=c.length)∧K (.ro (c.drop (i.toNat*k)))
  | .ptr m e c,.v (.int _ i)=>match h m with
   |some _=>(0<=i∧i<n)∧K (.ptr m e (c+i.toNat*k))
   |none=>False
  |_,_=>False
 | .idxAgg g n k x i=>match ev x,ev i with
  |.agg c,.v (.int _ i)=>(0<=i∧i<n∧i.toNat*k+k<=c.length)∧K (.mk g ((c.drop (i.toNat*k)).take k))
  |_,_=>False
 | .idxStr x i=>match ev x,ev i with
  |.v (.string s),.v (.int _ i)=>(0<=i∧i<s.size)∧K (.v (.int .u8 (s.data.toList.getD i.toNat 0).toNat))
  |_,_=>False
 | .bin op x y=>match ev x,ev y with
  |.v (.int k a),.v (.int k' b)=>aGV op k k' a b K
  |_,_=>False
 | .binS op x y=>match ev x,ev y with
  |.v (.string a),.v (.string b)=>aB6 op a b K
  |_,_=>False
 | .binB op x y=>match ev x,ev y with
  |.v (.bool a),.v (.bool b)=>aAs op a b K
  |_,_=>False
 | .un op x=>match op,ev x with
  |.not,.v (.bool b)=>K (.v (.bool (!b)))
  |.neg,.v (.int k n)=>K (.v (.int k (k.wrap (0-n))))
  |.xor,.v (.int k n)=>K (.v (.int k (fU .xor k (if k.signed then -1 else k.max) n)))
  |_,_=>False
 | .conv k x=>match ev x with
  |.v (.int _ n)=>K (.v (.int k (k.wrap n)))
  |_=>False
 | .len x=>match ev x with
  |.sl _ l=>K (.v (.int .i64 l.length))
  | .loc n _ len=>match h n with
   |some (.arr _ _ _)=>K (.v (.int .i64 len))
   |_=>False
  |.v (.slice _ n _)=>K (.v (.int .i64 n))
  |_=>False
 | .lenS x=>match ev x with
  |.v (.string s)=>K (.v (.int .i64 s.size))
  |_=>False
 |.lenC n=>K (.v (.int .i64 n))
 | .slc k x lo hi=>match ev x with
  | .sl k' l =>
   let f:Int->Int->Prop:=λlo hi=>(k'=k∧0<=lo∧lo<=hi∧hi<=l.length)∧K (.sl k ((l.take hi.toNat).drop lo.toNat))
   match lo.map ev,hi.map ev with
   |none,none=>f 0 l.length
   |some (.v (.int _ lo)),none=>f lo l.length
   |none,some (.v (.int _ hi))=>f 0 hi
   |some (.v (.int _ lo)),some (.v (.int _ hi))=>f lo hi
   |_,_=>False
  | .loc n off len=>match h n with
   | some (.arr k' _ _) =>
    let f:Int->Int->Prop:=λlo hi=>(k'=k∧0<=lo∧lo<=hi∧hi<=len)∧K (.loc n (off+lo.toNat) (hi-lo).toNat)
    match lo.map ev,hi.map ev with
    |none,none=>f 0 len
    |some (.v (.int _ lo)),none=>f lo len
    |none,some (.v (.int _ hi))=>f 0 hi
    |some (.v (.int _ lo)),some (.v (.int _ hi))=>f lo hi
    |_,_=>False
   |_=>False
  |_=>False
 | .sstr x lo hi=>match ev x with
  | .v (.string s) =>
   let f:Int->Int->Prop:=λlo hi=>(0<=lo∧lo<=hi∧hi<=s.size)∧K (.v (.string (s.extract lo.toNat hi.toNat)))
   match lo.map ev,hi.map ev with
   |none,none=>f 0 s.size
   |some (.v (.int _ lo)),none=>f lo s.size
   |none,some (.v (.int _ hi))=>f 0 hi
   |some (.v (.int _ lo)),some (.v (.int _ hi))=>f lo hi
   |_,_=>False
  |_=>False
 | .nilc x=>match ev x with
  |.ro c=>K (.ro c)
  | .ptr n e c=>match h n with
   |some _=>K (.ptr n e c)
   |none=>False
  |.fn f c=>K (.fn f c)
  |_=>False
 | .extract x i=>match ev x with
  |.tup c=>i<c.length∧K (c.getD i .junk)
  |_=>False
 |.build z parts=>layAll ev h z parts λcs=>K (.agg cs)
 |.mkfn f caps=>K (.fn f (caps.map ev))
 | .mm mx x y=>match ev x,ev y with
  |.v (.int k a),.v (.int _ b)=>K (.v (.int k (if mx then(if b>a then b else a) else(if b<a then b else a))))
  |_,_=>False
 | .b2s x=>match qQ 1 h (ev x) with
  | some l=>match tJ l with
   |some ns=>K (.v (.string (jD ns)))
   |none=>False
  |none=>False
 | .eqA neg ks x y=>match ev x,ev y with
  | .agg c,.agg c'=>match eqC ks c c' with
   |some b=>K (.v (.bool (if neg then !b else b)))
   |none=>False
  |_,_=>False
 | .idxB x y=>match ev x,ev y with
  |.v (.string s),.v (.int .u8 c)=>K (.v (.int .i64 (aAk s c)))
  |_,_=>False
 |.box _|.alloc _|.bslice .. | .mk .. | .call .. | .store .. | .append .. | .appendC .. | .bsliceC .. | .clr ..=>False
theorem aKO {ev:Operand->AV}{h:Name->Option Blk}{K:AV->Prop}{g:Bool}{k:Nat}{a:Operand} (F:rd ev h K (.loadV g k a)):rd ev h K (.load g k a):=by
 simp only[rd] at F;split at F
 .rename_i n e c H;split at F
  .rename_i cs z G;simp only[rd,H,G];exact⟨F.1.1,F.2⟩
  .exact F.elim
 .exact F.elim
theorem aJs {ev:Operand->AV}{h:Name->Option Blk}{K:AV->Prop}{off:Nat}{x:Operand} (F:rd ev h K (.fieldV off x)):rd ev h K (.fieldAddr off x):=by
 simp only[rd] at F;split at F
 .rename_i n e c H;split at F
  .rename_i cs z G;simp only[rd,H,G];exact F
  .exact F.elim
 .exact F.elim
/-! ## resolving -/
def kX (P:Program) (t:TypeId):Option Nat:=(P.info? t).map (·.size)
def jK (P:Program) (t:TypeId):Option Bool:=
 match P.underlying t with
 |some (.struct _)|some (.array _ _)=>some true
 |some _=>some false
 |none=>none
def vQ (P:Program) (t:TypeId):Option (Bool×Nat):=
 match jK P t,kX P t with
 |some true,some n=>some (true,n)
 |some false,some _=>some (false,1)
 |_,_=>none
theorem nM {P:Program}{t:TypeId}{b:Bool} (h:jK P t=some b) (w:World):(isAgg t).run P w=.ok b w:=by
 unfold jK at h;unfold isAgg underlying;cases hu:P.underlying t with
 |none=>simp[hu] at h
 |some d=>cases d<;>simp_all
theorem run_sizeOf {P:Program}{t:TypeId}{n:Nat} (h:kX P t=some n) (w:World):(sizeOf t).run P w=.ok n w:=by
 unfold kX at h;unfold sizeOf typeInfo;cases hi:P.info? t with
 |none=>simp[hi] at h
 |some i=>simp_all
theorem run_underlying {P:Program}{t:TypeId}{d:TypeDesc} (h:P.underlying t=some d) (w:World):(underlying t).run P w=.ok d w:=by
 unfold underlying;simp[h]
end
section
variable [Envs]
section inv
variable {S:Nat->Prop}{w:World}{ρ:Name->Option Nat}{κ:Name->Nat}{h:Name->Option Blk}{v:Value}
theorem dD {x:Value} (F:RV S w ρ κ h (.v x) v):v=x:=by
 cases F with|clo F=>cases F;rfl
theorem xI {c:List AV} (F:RV S w ρ κ h (.ro c) v):RC S w (.ro c) v:=by
 grind [RV]
theorem yX {k:Nat}{l:List (List AV)} (F:RV S w ρ κ h (.sl k l) v):RC S w (.sl k l) v:=by
 grind [RV]
theorem iT {n:Name}{off len:Nat} (F:RV S w ρ κ h (.loc n off len) v):aAz ρ κ h n off len v:=by
 cases F with
 |clo F=>cases F
 |loc _ _ _ _ hv=>exact hv
theorem eH {n:Name}{e c:Nat} (F:RV S w ρ κ h (.ptr n e c) v):aEW ρ h n e c v:=by
 cases F with
 |clo F=>cases F
 |ptr _ _ _ _ hv=>exact hv
theorem rW {c:List AV} (F:RV S w ρ κ h (.agg c) v):∃vs,v=.agg vs∧c.length=vs.size∧∀j,j<c.length->RV S w ρ κ h (c.getD j .junk) (vs.getD j undef):=by
 cases F with
 |clo F=>cases F with|agg _ vs hl hr=>exact⟨vs,rfl,hl,λj G=>.clo (hr j G)⟩
 |agg _ vs hl hr=>exact⟨vs,rfl,hl,hr⟩
theorem aCU {c:List AV} (F:RV S w ρ κ h (.tup c) v):∃vs,v=.tuple vs∧c.length=vs.size∧∀j,j<c.length->RV S w ρ κ h (c.getD j .junk) (vs.getD j undef):=by
 cases F with
 |clo F=>cases F with|tup _ vs hl hr=>exact⟨vs,rfl,hl,λj G=>.clo (hr j G)⟩
 |tup _ vs hl hr=>exact⟨vs,rfl,hl,hr⟩
theorem aDJ {f:FuncId}{c:List AV} (F:RV S w ρ κ h (.fn f c) v):∃vs,v=.func (.func f) #[] vs∧c.length=vs.size∧∀j,j<c.length->RV S w ρ κ h (c.getD j .junk) (vs.getD j undef):=by
 cases F with
 |clo F=>cases F with|fn _ _ vs hl hr=>exact⟨vs,rfl,hl,λj G=>.clo (hr j G)⟩
 |fn _ _ vs hl hr=>exact⟨vs,rfl,hl,hr⟩
end inv
theorem cell_of_row {w:World}{x off:Nat}{cs:Array Value}{T:TypeId}{fr:Nat×Nat} (G:w.heap[x]? = some (.cells cs T fr)) (F:off<cs.size) :
  w.cell? ⟨x,off,none⟩=some (cs.getD off undef):=by
 simp[World.cell?,G,F]
theorem addr_add (x off j:Nat):(⟨x,off,none⟩:Addr).add j=⟨x,off+j,none⟩:=by
 grind [Addr.add]
theorem HOK.cells {S:Nat->Prop}{w:World}{ρ:Name->Option Nat}{κ:Name->Nat}{h:Name->Option Blk} (I:HOK S w ρ κ h) {n:Name}{b:Blk} (Y:h n=some b)
  {x:Nat} (G:ρ n=some x) {e j:Nat} (H:j<(b.row e).length) :
  ∃u,w.cell? ⟨x,e*b.k+j,none⟩=some u∧u.oneCell'=true∧RV S w ρ κ h ((b.row e).getD j .junk) u:=by
 have M:=I.blk n b Y;cases b with
 | var c z =>
  obtain⟨y,cs,T,fr,F,h2,_,_,_,_,U,V⟩:=M;obtain rfl:=Ay (F.symm.trans G);cases e with
  | zero =>
   grind [Blk.row,cell_of_row]
  |succ e=>simp[Blk.row] at H
 | arr k l z =>
  obtain⟨O,⟨F,h2⟩|⟨y,cs,T,fr,F,h2,_,_,_,_,U,V⟩⟩:=M
  .rw[F] at G;cases G
  .obtain rfl:=Ay (F.symm.trans G);simp only[Blk.row,Blk.k] at H⊢
   have J:e<l.length:=by
    grind
   have Z:j<k:=by rw[←O e J];exact H
   have:e*k+j<cs.size:=by
    have:(e+1)*k<=l.length*k:=Bn k J;rw[Ch] at this;omega
   all_goals grind [cell_of_row,RV]
theorem aBe {P:Program}{T:TypeId}{k:Nat} (h:vQ P T=some (false,k)):k=1:=by
 grind [vQ]
theorem aCg {P:Program}{T:TypeId}{g:Bool}{k:Nat} (F:vQ P T=some (g,k)) {w:World}{x off:Nat} (f:Nat->Value)
  (H:∀j,j<k->w.cell? ⟨x,off+j,none⟩=some (f j)) :
  (loadVar T ⟨x,off,none⟩).run P w=.ok (if g then .agg ((List.range k).map f).toArray else f 0) w:=by
 unfold vQ at F;split at F
 .rename_i n G h2;simp only[Ab,AL] at F;obtain⟨rfl,rfl⟩:=F;simp[loadVar,nM G,run_sizeOf h2,run_loadCells w ⟨x,off,none⟩ n f (λj I=>by rw[addr_add];exact H j I)]
 .rename_i n G h2;simp only[Ab,AL] at F;obtain⟨rfl,rfl⟩:=F;have:=H 0 (by omega);simp only[Cu] at this;simp[loadVar,nM G,this]
 .cases F
theorem aIc {S:Nat->Prop}{w:World}{ρ:Name->Option Nat}{κ:Name->Nat}{h:Name->Option Blk}{g:Bool}{k:Nat}{c:List AV}{f:Nat->Value} (H:g=false->k=1)
  (F:c.length=k) (G:∀j,j<k->RV S w ρ κ h (c.getD j .junk) (f j)):RV S w ρ κ h (.mk g c) (if g then .agg ((List.range k).map f).toArray else f 0):=by
 cases g with
 | true =>
  simp only[AV.mk,Bj];refine .agg _ _ (by simp[F]) λj I=>?_
  have:((List.range k).map f).toArray.getD j undef=f j:=by
   have:j<k:=by omega
   simp[this]
  rw[this];exact G j (by omega)
 | false =>
  obtain rfl:=H rfl;have:=G 0 (by omega)
  match c,F with
  | [x],_=>simpa[AV.mk] using this
def Ans (P:Program) (S:Nat->Prop) (w:World) (ρ:Name->Option Nat) (κ:Name->Nat) (h:Name->Option Blk) (K:AV->Prop) (s:Sem Value):Prop:=
 ∃x v,K x∧s.run P w=.ok v w∧RV S w ρ κ h x v
variable {P:Program}{C:Ctx}{σ:FSt}{a:Act}{w:World}{S:Nat->Prop}{ρ:Name->Option Nat}{κ:Name->Nat}{K:AV->Prop}
theorem aIi (I:OK C σ a w S ρ κ) {T:TypeId}{g:Bool}{k:Nat} (M:vQ P T=some (g,k)) {x:Operand} (G:rd (evO σ.s) σ.h K (.load g k x)) :
  Ans P S w ρ κ σ.h K (Instr.loadAt T (a.eval x)):=by
 have J:=I.ev x;generalize a.eval x=va at J⊢;simp only[rd] at G;split at G
 .rename_i c U;rw[U] at J;obtain⟨hk,O⟩:=G;cases xI J with
  | ro _ b off xs hS hcell ho hr =>
   refine⟨_,_,O,by simp only[Instr.loadAt,Instr.sureAddr,Sem.run_bind,Sem.run_pure,Result.andThen_ok];exact aCg M xs (λj H=>hcell j (by omega)),?_⟩;refine aIc (λV=>aBe (V ▸ M)) (by simp;omega) λj H=>?_;have e:(c.take k).getD j .junk=c.getD j .junk:=by simp[List.getD,H]
   rw[e];exact .clo (hr j (by omega))
 .rename_i n e c U;rw[U] at J;split at G
  .rename_i b Z;obtain⟨hk,O⟩:=G;obtain⟨y,hy,Y⟩:=eH J b Z;have F:=λj (H:j<(b.row e).length)=>I.hok.cells Z hy (e:=e) (j:=j) H
   let f:Nat->Value:=λj=>(w.cell? ⟨y,e*b.k+c+j,none⟩).getD undef
   have hf:∀j,j<k->w.cell? ⟨y,e*b.k+c+j,none⟩=some (f j):=λj H=>by
    obtain⟨u,hu,_⟩:=F (c+j) (by omega)
    all_goals grind
   refine⟨_,_,O,by subst Y;simp only[Instr.loadAt,Instr.sureAddr,Sem.run_bind,Sem.run_pure,Result.andThen_ok];exact aCg M f hf,?_⟩;refine aIc (λV=>aBe (V ▸ M)) (by simp;omega) λj H=>?_
   all_goals grind
  .exact G.elim
 .exact G.elim
theorem aIf {c:List AV}{v:Value}{off:Nat} (G:off<=c.length) (h:RC S w (.ro c) v):∃x o,v=.pointer (some ⟨x,o,none⟩)∧RC S w (.ro (c.drop off)) (.pointer (some ⟨x,o+off,none⟩)):=by
 cases h with
 | ro _ x o xs hS hc hone hr =>
  refine⟨x,o,rfl,.ro _ x (o+off) (λj=>xs (off+j)) hS (λj F=>?_) (λj F=>hone _ (by simp at F;omega)) λj F=>?_⟩
  all_goals grind
def xO (P:Program) (s:TypeId) (i:Nat):Option Field:=
 match P.underlying s with
 |some (.struct fs)=>fs[i]?
 |_=>none
theorem aFe (M:OK C σ a w S ρ κ) {s:TypeId}{i:Nat}{f:Field}{n:Nat} (I:xO P s i=some f) (Y:kX P f.type=some n) (O:n≠0) {x:Operand}
  (G:rd (evO σ.s) σ.h K (.fieldAddr f.offset x)):Ans P S w ρ κ σ.h K (Instr.fieldAt s (a.eval x) i):=by
 have H:=M.ev x
 have F:∀b o,(Instr.fieldAt s (.pointer (some ⟨b,o,none⟩)) i).run P w=.ok (.pointer (some ⟨b,o+f.offset,none⟩)) w:=by
  intro b o;unfold xO at I;split at I
  .rename_i fs hu;simp[Instr.fieldAt,run_underlying hu,I,Instr.sureAddr,fieldPlace,run_sizeOf Y,O,addr_add]
  .cases I
 generalize a.eval x=va at H⊢;simp only[rd] at G;split at G
 .rename_i m e c J;rw[J] at H;split at G
  .rename_i b U;obtain⟨y,hy,rfl⟩:=eH H b U;refine⟨_,_,G,F _ _,.ptr _ _ _ _ λb' V=>?_⟩
   all_goals grind
  .exact G.elim
 .rename_i c J;rw[J] at H;obtain⟨y,o,rfl,Z⟩:=aIf G.1 (xI H);exact⟨_,_,G.2,F _ _,.clo Z⟩
 .exact G.elim
theorem aKQ (I:OK C σ a w S ρ κ) {s:TypeId}{i:Nat}{f:Field}{n:Nat}{g:Bool} (F:xO P s i=some f) (Y:kX P f.type=some n) (M:jK P f.type=some g) (G:g=false->n=1)
  {x:Operand} (H:rd (evO σ.s) σ.h K (.field g f.offset n x)):Ans P S w ρ κ σ.h K (Instr.field s (a.eval x) i):=by
 have J:=I.ev x;generalize a.eval x=va at J⊢;simp only[rd] at H;split at H
 .rename_i c V;rw[V] at J;obtain⟨vs,rfl,hl,hr⟩:=rW J;unfold xO at F;split at F
  .rename_i Z O;obtain⟨hk,U⟩:=H;refine⟨_,(if g then .agg ((List.range n).map λj=>vs.getD (f.offset+j) undef).toArray else vs.getD (f.offset+0) undef),U,?_,?_⟩
   .cases g with
    | true =>
     simp only[Instr.field,Sem.run_bind,run_underlying O,Result.andThen_ok,F,asAgg,Sem.run_pure,part,nM M,Bj,run_sizeOf Y];congr 2;apply Array.ext (by simp;omega);intro j G h2;simp at G h2;simp[show f.offset+j<vs.size by omega]
    | false =>
     have:=G rfl;simp[Instr.field,run_underlying O,F,asAgg,part,nM M,show f.offset<vs.size by omega]
   .refine aIc G (by simp;omega) λj hj=>?_
    all_goals grind
  .cases F
 .exact H.elim
theorem aOc {k:Nat}{l:List (List AV)}{v:Value} (h:RC S w (.sl k l) v) {i:Nat} (hi:i<l.length) :
  ∃x off cap,v=.slice (some ⟨x,off,none⟩) l.length cap∧RC S w (.ro (l.getD i [])) (.pointer (some ⟨x,off+i*k,none⟩)):=by
 cases h with
 | sl _ _ base cap x off xs hb hc ho hr hk hcap =>
  have G:l≠[]:=by rintro rfl;simp at hi
  obtain⟨rfl,H⟩:=hb G;refine⟨x,off,cap,rfl,.ro _ x _ (λj=>xs (i*k+j)) H (λj F=>?_) (λj F=>ho i j hi (by rw[←hk i hi];exact F)) λj F=>hr i j hi (by rw[←hk i hi];exact F)⟩
  all_goals grind
theorem aKP (H:OK C σ a w S ρ κ) {t e:TypeId}{k:Nat} (hu:P.underlying t=some (.slice e)) (hk:kX P e=some k) {x i:Operand}
  (G:rd (evO σ.s) σ.h K (.idxSl k x i)):Ans P S w ρ κ σ.h K (Instr.indexAt t (a.eval x) (a.eval i)):=by
 have I:=H.ev x;have hi:=H.ev i;generalize a.eval x=va at I⊢;generalize a.eval i=vi at hi⊢;simp only[rd] at G;split at G
 .rename_i Y l kk n U V;rw[U] at I;rw[V] at hi;obtain rfl:=dD hi;obtain⟨⟨rfl,J,M⟩,O⟩:=G;obtain⟨y,off,cap,rfl,hr⟩:=aOc (yX I) (i:=n.toNat) (by omega);refine⟨_,_,O,?_,.clo hr⟩;simp[Instr.indexAt,asIntOf,run_underlying hu,run_sizeOf hk,J,M,addr_add]
 .rename_i m off len kk n U V;rw[U] at I;rw[V] at hi;obtain rfl:=dD hi;split at G
  .rename_i Y l z hb;obtain⟨⟨rfl,J,M⟩,O⟩:=G;obtain⟨hd,Z,cap,rfl,_,_,F,_⟩:=iT I _ _ _ hb;obtain⟨y,hy,rfl⟩:=F (by omega);refine⟨_,.pointer (some ⟨y,off*Y+n.toNat*Y,none⟩),O,?_,.ptr _ _ _ _ λb' ha=>?_⟩
   .simp[Instr.indexAt,asIntOf,run_underlying hu,run_sizeOf hk,J,M,addr_add]
   all_goals grind [Blk.k]
  .exact G.elim
 .exact G.elim
theorem aJq (G:OK C σ a w S ρ κ) {t e:TypeId}{n k:Nat} (Y:P.underlying t=some (.array n e)) (V:kX P e=some k) {x i:Operand}
  (F:rd (evO σ.s) σ.h K (.idxArr n k x i)):Ans P S w ρ κ σ.h K (Instr.indexAt t (a.eval x) (a.eval i)):=by
 have H:=G.ev x;have hi:=G.ev i;generalize a.eval x=va at H⊢;generalize a.eval i=vi at hi⊢;simp only[rd] at F;split at F
 .rename_i c kk m O U;rw[O] at H;rw[U] at hi;obtain rfl:=dD hi;obtain⟨⟨I,J,h2⟩,M⟩:=F;obtain⟨y,o,rfl,hr⟩:=aIf h2 (xI H);refine⟨_,_,M,?_,.clo hr⟩;simp[Instr.indexAt,asIntOf,run_underlying Y,run_sizeOf V,I,J,addr_add,Instr.sureAddr]
 .rename_i nm Z c kk m O U;rw[O] at H;rw[U] at hi;obtain rfl:=dD hi;split at F
  .rename_i b hb;obtain⟨⟨I,J⟩,M⟩:=F;obtain⟨y,hy,rfl⟩:=eH H b hb;refine⟨_,.pointer (some ⟨y,Z*b.k+c+m.toNat*k,none⟩),M,?_,.ptr _ _ _ _ λb' ha=>?_⟩
   .simp[Instr.indexAt,asIntOf,run_underlying Y,run_sizeOf V,I,J,addr_add,Instr.sureAddr]
   all_goals grind
  .exact F.elim
 .exact F.elim
theorem aJr (G:OK C σ a w S ρ κ) {t e:TypeId}{n k:Nat}{g:Bool} (V:P.underlying t=some (.array n e)) (U:kX P e=some k) (O:jK P e=some g) (F:g=false->k=1) {x i:Operand}
  (I:rd (evO σ.s) σ.h K (.idxAgg g n k x i)):Ans P S w ρ κ σ.h K (Instr.index t (a.eval x) (a.eval i)):=by
 have J:=G.ev x;have hi:=G.ev i;generalize a.eval x=va at J⊢;generalize a.eval i=vi at hi⊢;simp only[rd] at I;split at I
 .rename_i c kk m Z hn;rw[Z] at J;rw[hn] at hi;obtain rfl:=dD hi;obtain⟨⟨M,H,h2⟩,Y⟩:=I;obtain⟨vs,rfl,hl,hr⟩:=rW J;refine⟨_,(if g then .agg ((List.range k).map λj=>vs.getD (m.toNat*k+j) undef).toArray else vs.getD (m.toNat*k+0) undef),Y,?_,?_⟩
  .cases g with
   | true =>
    simp only[Instr.index,asIntOf,Sem.run_bind,Sem.run_pure,run_underlying V,Result.andThen_ok,M,H,and_self,Bj,run_sizeOf U,part,nM O];congr 2;apply Array.ext (by simp;omega);intro j H h2;simp at H h2;simp[show m.toNat*k+j<vs.size by omega]
   | false =>
    have:=F rfl;subst this;have:vs[m.toNat]? = some (vs.getD m.toNat undef):=by simp[show m.toNat<vs.size by omega]
    simp[Instr.index,asIntOf,run_underlying V,M,H,run_sizeOf U,part,nM O,show m.toNat<vs.size by omega]
  .refine aIc F (by simp;omega) λj hj=>?_
   all_goals grind
 .exact I.elim
theorem aJp (G:OK C σ a w S ρ κ) {t:TypeId} (V:P.underlying t=some .string) {x i:Operand}
  (H:rd (evO σ.s) σ.h K (.idxStr x i)):Ans P S w ρ κ σ.h K (Instr.index t (a.eval x) (a.eval i)):=by
 have I:=G.ev x;have hi:=G.ev i;generalize a.eval x=va at I⊢;generalize a.eval i=vi at hi⊢;simp only[rd] at H;split at H
 .rename_i s Z m O U;rw[O] at I;rw[U] at hi;obtain rfl:=dD hi;obtain rfl:=dD I;obtain⟨⟨J,Y⟩,M⟩:=H;refine⟨_,_,M,?_,.clo (.v _)⟩;have F:m.toNat<s.size:=by omega
  have e:s[m.toNat]? = some (s.data.toList.getD m.toNat 0):=by
   have:m.toNat<s.data.size:=F;rw[getElem?_pos s m.toNat F];simp;rw[getElem?_pos s.data m.toNat this];rfl
  simp[Instr.index,asIntOf,run_underlying V,J,e]
 .exact H.elim
end
section
variable [Envs]
variable {P:Program}{C:Ctx}{σ:FSt}{a:Act}{w:World}{S:Nat->Prop}{ρ:Name->Option Nat}{κ:Name->Nat}{K:AV->Prop}
theorem aN9 (I:OK C σ a w S ρ κ) {op:BinOp}{t:TypeId}{x y:Operand}
  (F:rd (evO σ.s) σ.h K (.bin op x y)):Ans P S w ρ κ σ.h K (do eqGuard op t x y (a.eval x) (a.eval y);binOp op t (a.eval x) (a.eval y)):=by
 have M:=I.ev x;have O:=I.ev y;generalize a.eval x=va at M⊢;generalize a.eval y=vb at O⊢;simp only[rd] at F;split at F
 .rename_i k n Y m U V;rw[U] at M;rw[V] at O;obtain rfl:=dD M;obtain rfl:=dD O;have H:(eqGuard op t x y (.int k n) (.int Y m)).run P w=.ok () w:=by unfold eqGuard;cases op<;>simp
  unfold aGV at F;cases op<;>simp only at F
  case shl=>exact⟨_,_,F.2,by simp[H,binOp,Op.shift,show ¬m<0 by omega],.clo (.v _)⟩
  case shr=>exact⟨_,_,F.2,by simp[H,binOp,Op.shift,show ¬m<0 by omega],.clo (.v _)⟩
  case quo=>obtain⟨⟨rfl,J⟩,G⟩:=F;exact⟨_,_,G,by simp[H,binOp,Op.intDiv,J],.clo (.v _)⟩
  case rem=>obtain⟨⟨rfl,J⟩,G⟩:=F;exact⟨_,_,G,by simp[H,binOp,Op.intDiv,J],.clo (.v _)⟩
  all_goals(obtain⟨rfl,G⟩:=F;exact⟨_,_,G,by simp[H,binOp,Op.intArith,Op.intCmp,Op.intBits,fU],.clo (.v _)⟩)
 .exact F.elim
theorem aMF (G:OK C σ a w S ρ κ) {op:BinOp}{t:TypeId}{x y:Operand}
  (F:rd (evO σ.s) σ.h K (.binS op x y)):Ans P S w ρ κ σ.h K (do eqGuard op t x y (a.eval x) (a.eval y);binOp op t (a.eval x) (a.eval y)):=by
 have I:=G.ev x;have J:=G.ev y;generalize a.eval x=va at I⊢;generalize a.eval y=vb at J⊢;simp only[rd] at F;split at F
 .rename_i s U M O;rw[M] at I;rw[O] at J;obtain rfl:=dD I;obtain rfl:=dD J;have H:(eqGuard op t x y (.string s) (.string U)).run P w=.ok () w:=by unfold eqGuard;cases op<;>simp
  unfold aB6 at F;cases op<;>simp only at F
  case add =>
   have V:IntKind.i64.max=9223372036854775807:=by decide
   exact⟨_,_,F.2,by simp[H,binOp,Op.stringOp];omega,.clo (.v _)⟩
  case eql=>exact⟨_,_,F,by simp[H,binOp,Op.stringOp],.clo (.v _)⟩
  case neq=>exact⟨_,_,F,by simp[H,binOp,Op.stringOp],.clo (.v _)⟩
 .exact F.elim
theorem aMG (G:OK C σ a w S ρ κ) {op:BinOp}{t:TypeId} (Y:P.underlying t=some .bool) {x y:Operand}
  (F:rd (evO σ.s) σ.h K (.binB op x y)):Ans P S w ρ κ σ.h K (do eqGuard op t x y (a.eval x) (a.eval y);binOp op t (a.eval x) (a.eval y)):=by
 have I:=G.ev x;have J:=G.ev y;generalize a.eval x=va at I⊢;generalize a.eval y=vb at J⊢;simp only[rd] at F;split at F
 .rename_i s H U V;rw[U] at I;rw[V] at J;obtain rfl:=dD I;obtain rfl:=dD J;have O:(eqGuard op t x y (.bool s) (.bool H)).run P w=.ok () w:=by unfold eqGuard;cases op<;>simp
  unfold aAs at F;cases op<;>simp only at F
  all_goals have M:(Op.equal t (.bool s) (.bool H)).run P w=.ok (s==H) w:=run_equalIn_bool' w 9999 t s H Y
  case eql=>exact⟨_,_,F,by simp[O,binOp,M],.clo (.v _)⟩
  case neq=>exact⟨_,_,F,by simp[O,binOp,M],.clo (.v _)⟩
 .exact F.elim
theorem rd_un (I:OK C σ a w S ρ κ) {op:UnOp}{x:Operand}
  (G:rd (evO σ.s) σ.h K (.un op x)):Ans P S w ρ κ σ.h K (Op.unary op (a.eval x)):=by
 have F:=I.ev x;generalize a.eval x=va at F⊢;simp only[rd] at G;split at G
 .rename_i b H;rw[H] at F;obtain rfl:=dD F;exact⟨_,_,G,by simp[Op.unary],.clo (.v _)⟩
 .rename_i k n H;rw[H] at F;obtain rfl:=dD F;exact⟨_,_,G,by simp[Op.unary,Op.intArith],.clo (.v _)⟩
 .rename_i k n H;rw[H] at F;obtain rfl:=dD F;exact⟨_,_,G,by simp[Op.unary,Op.intBits,fU],.clo (.v _)⟩
 .exact G.elim
theorem aME (G:OK C σ a w S ρ κ) {s d:TypeId}{k O:IntKind} (M:P.underlying s=some (.int O)) (J:P.underlying d=some (.int k)) {x:Operand}
  (F:rd (evO σ.s) σ.h K (.conv k x)):Ans P S w ρ κ σ.h K (convert s d (a.eval x)):=by
 have H:=G.ev x;generalize a.eval x=va at H⊢;simp only[rd] at F;split at F
 .rename_i U n I;rw[I] at H;obtain rfl:=dD H;exact⟨_,_,F,by simp[convert,run_underlying M,run_underlying J,Conv.intToInt],.clo (.v _)⟩
 .exact F.elim
theorem aN8 (M:OK C σ a w S ρ κ) {t ty e:TypeId} (U:P.underlying t=some (.slice e)) {x:Operand}
  (F:rd (evO σ.s) σ.h K (.len x)):Ans P S w ρ κ σ.h K (Builtin.len_ #[t] ty #[a.eval x]):=by
 have H:=M.ev x;generalize a.eval x=va at H⊢
 have G:∀b n c,(Builtin.len_ #[t] ty #[.slice b n c]).run P w=.ok (.int .i64 n) w:=by
  intro b n c;simp[Builtin.len_,run_underlying U,goInt]
 simp only[rd] at F;split at F
 .rename_i k l J;rw[J] at H;cases yX H with
  |sl _ _ I cap x off xs O hcc ho hr hk hcap=>exact⟨_,_,F,G _ _ _,.clo (.v _)⟩
 .rename_i n off len J;rw[J] at H;split at F
  .rename_i k l z O;obtain⟨_,I,cap,rfl,_⟩:=iT H _ _ _ O;exact⟨_,_,F,G _ _ _,.clo (.v _)⟩
  .exact F.elim
 .rename_i b n c J;rw[J] at H;obtain rfl:=dD H;exact⟨_,_,F,G _ _ _,.clo (.v _)⟩
 .exact F.elim
theorem aMB (G:OK C σ a w S ρ κ) {t ty:TypeId} (J:P.underlying t=some .string) {x:Operand}
  (F:rd (evO σ.s) σ.h K (.lenS x)):Ans P S w ρ κ σ.h K (Builtin.len_ #[t] ty #[a.eval x]):=by
 have H:=G.ev x;generalize a.eval x=va at H⊢;simp only[rd] at F;split at F
 .rename_i s I;rw[I] at H;obtain rfl:=dD H;exact⟨_,_,F,by simp[Builtin.len_,run_underlying J,goInt],.clo (.v _)⟩
 .exact F.elim
theorem aMC (v:Value) {t ty e:TypeId}{n:Nat} (F:P.underlying t=some (.array n e))
  (G:rd (evO σ.s) σ.h K (.lenC n)):Ans P S w ρ κ σ.h K (Builtin.len_ #[t] ty #[v]):=by
 refine⟨_,.int .i64 n,G,?_,.clo (.v _)⟩;simp[Builtin.len_,run_underlying F,goInt]
theorem aKz {k:Nat}{l:List (List AV)}{v:Value} (h:RC S w (.sl k l) v) {lo hi:Nat} (U:lo<=hi) (h2:hi<=l.length) :
  ∃ F cap,v=.slice F l.length cap∧l.length<=cap∧
   RC S w (.sl k ((l.take hi).drop lo)) (.slice (if cap=lo then F else F.map (·.add (lo*k))) (hi-lo) (cap-lo)):=by
 cases h with
 | sl _ _ F cap x off xs hb hc ho hr hk hcap =>
  refine⟨F,cap,rfl,hcap.1,?_⟩;have J:((l.take hi).drop lo).length=hi-lo:=by simp;omega
  have H:∀i,i<hi-lo->((l.take hi).drop lo).getD i []=l.getD (lo+i) []:=by
   grind
  have e:∀i j,(lo+i)*k+j=lo*k+(i*k+j):=by intro i j;rw[CY];omega
  have O:=RC.sl (S:=S) (w:=w) k ((l.take hi).drop lo) (if cap=lo then F else F.map (·.add (lo*k))) (cap-lo) x (off+lo*k) (λm=>xs (lo*k+m))
   (λM=>?_) (λi j G I=>?_) (λi j G I=>?_) (λi j G I=>?_) (λi G=>?_) ?_
  .grind
  .have:0<hi-lo:=by
    grind
   obtain⟨rfl,V⟩:=hb (by rintro rfl;simp at h2;omega)
   all_goals grind [addr_add]
  all_goals grind
def Bnd (ov:Option Value) (dflt:Nat) (n:Nat):Prop:=(ov=none∧n=dflt)∨∃k,ov=some (.int k n)
theorem aA2 {t e:TypeId}{k:Nat} (U:P.underlying t=some (.slice e)) (O:kX P e=some k) {F:Option Addr}{len cap lo hi:Nat}{H G:Option Value}
  (J:Bnd H 0 lo) (I:Bnd G len hi) (M:lo<=hi) (h2:hi<=cap) :
  (Instr.sliceAt t (.slice F len cap) H G none).run P w=.ok (.slice (if cap=lo then F else F.map (·.add (lo*k))) (hi-lo) (cap-lo)) w:=by
 rcases J with⟨rfl,rfl⟩|⟨Y,rfl⟩<;>rcases I with⟨rfl,rfl⟩|⟨V,rfl⟩ <;>
  simp[Instr.sliceAt,run_underlying U,Instr.slice,Instr.sliceBounds,Instr.sliceBound,asIntOf,run_sizeOf O,M,h2]
theorem aN7 (hf:OK C σ a w S ρ κ) {t e:TypeId}{k:Nat} (hu:P.underlying t=some (.slice e)) (hk:kX P e=some k) {x:Operand}{G F:Option Operand}
  (H:rd (evO σ.s) σ.h K (.slc k x G F)):Ans P S w ρ κ σ.h K (Instr.sliceAt t (a.eval x) (G.map a.eval) (F.map a.eval) none):=by
 have hx:=hf.ev x;generalize a.eval x=va at hx⊢
 have J:∀(o:Option Operand) (d:Nat),(o=none->Bnd (o.map a.eval) d d)∧(∀Z m,o.map (evO σ.s)=some (.v (.int Z m))->0<=m->Bnd (o.map a.eval) d m.toNat):=by
  intro o d;refine⟨λh=>by subst h;exact .inl ⟨rfl,rfl⟩,λZ m h h0=>?_⟩;cases o with
  |none=>simp at h
  | some o =>
   simp only[AU,Ab] at h;have:=hf.ev o;rw[h] at this;refine .inr ⟨Z,?_⟩;simp only[AU,dD this,Int.toNat_of_nonneg h0]
 simp only[rd] at H;split at H
 .rename_i k' l hc;rw[hc] at hx
  have I:∀(lo hi:Int),(k'=k∧0<=lo∧lo<=hi∧hi<=l.length)∧K (.sl k ((l.take hi.toNat).drop lo.toNat))->Bnd (G.map a.eval) 0 lo.toNat->Bnd (F.map a.eval) l.length hi.toNat->
    Ans P S w ρ κ σ.h K (Instr.sliceAt t va (G.map a.eval) (F.map a.eval) none):=by
   rintro lo hi ⟨⟨rfl,h0,h1,h2⟩,hK⟩ b1 b2;obtain⟨ha,cap,rfl,he,hr⟩:=aKz (yX hx) (lo:=lo.toNat) (hi:=hi.toNat) (by omega) (by omega);exact⟨_,_,hK,aA2 hu hk b1 b2 (by omega) (by omega),.clo hr⟩
  split at H
  .rename_i M O;have n1:G=none:=by cases G<;>simp_all
   have n2:F=none:=by cases F<;>simp_all
   exact I _ _ H (by simpa using(J G 0).1 n1) (by simpa using(J F l.length).1 n2)
  .rename_i Z m M O;have n2:F=none:=by cases F<;>simp_all
   exact I _ _ H ((J G 0).2 _ _ M H.1.2.1) (by simpa using(J F l.length).1 n2)
  .rename_i Z m M O;have n1:G=none:=by cases G<;>simp_all
   exact I _ _ H (by simpa using(J G 0).1 n1) ((J F l.length).2 _ _ O (by have:=H.1.2.2.1;omega))
  all_goals grind
 .rename_i n off len hc;rw[hc] at hx;split at H
  .rename_i k' l z hd
   have I:∀(lo hi:Int),(k'=k∧0<=lo∧lo<=hi∧hi<=len)∧K (.loc n (off+lo.toNat) (hi-lo).toNat)->Bnd (G.map a.eval) 0 lo.toNat->Bnd (F.map a.eval) len hi.toNat->
     Ans P S w ρ κ σ.h K (Instr.sliceAt t va (G.map a.eval) (F.map a.eval) none):=by
    rintro lo hi ⟨⟨rfl,h0,h1,h2⟩,hK⟩ b1 b2;obtain⟨hn,ha,cap,rfl,hm,he,V,Y⟩:=iT hx _ _ _ hd;refine⟨_,_,hK,aA2 hu hk b1 b2 (by omega) (by omega),.loc _ _ _ _ λk2 l2 z2 U=>?_⟩;rw[hd] at U;simp only[Ab,Blk.arr.injEq] at U;obtain⟨rfl,rfl,rfl⟩:=U;refine⟨by omega,_,_,by congr 1;omega,by omega,by omega,λhl=>?_,λM O=>?_⟩
    .obtain⟨y,hy,rfl⟩:=V (by omega);rw[AC (by omega)];exact⟨y,hy,by simp[addr_add,CY]⟩
    .have el:lo.toNat=0:=by omega
     have eo:off=0:=by omega
     rcases Y eo (by omega) with⟨h1,h2,h3⟩|⟨y,hy,hg,hj⟩
     .grind
     .refine .inr ⟨y,hy,?_,by rw[el];exact hj⟩;rw[el,hg];simp[Addr.add]
   split at H
   .rename_i M O;have n1:G=none:=by cases G<;>simp_all
    have n2:F=none:=by cases F<;>simp_all
    exact I _ _ H (by simpa using(J G 0).1 n1) (by simpa using(J F len).1 n2)
   .rename_i Z m M O;have n2:F=none:=by cases F<;>simp_all
    exact I _ _ H ((J G 0).2 _ _ M H.1.2.1) (by simpa using(J F len).1 n2)
   .rename_i Z m M O;have n1:G=none:=by cases G<;>simp_all
    exact I _ _ H (by simpa using(J G 0).1 n1) ((J F len).2 _ _ O (by have:=H.1.2.2.1;omega))
   all_goals grind
  .exact H.elim
 .exact H.elim
theorem aFR {t:TypeId} (M:P.underlying t=some .string) {s:ByteArray}{lo hi:Nat}{G F:Option Value}
  (I:Bnd G 0 lo) (H:Bnd F s.size hi) (J:lo<=hi) (h2:hi<=s.size) :
  (Instr.sliceAt t (.string s) G F none).run P w=.ok (.string (s.extract lo hi)) w:=by
 rcases I with⟨rfl,rfl⟩|⟨U,rfl⟩<;>rcases H with⟨rfl,rfl⟩|⟨O,rfl⟩ <;>
  simp[Instr.sliceAt,run_underlying M,Instr.slice,Instr.sliceBounds,Instr.sliceBound,asIntOf,J,h2]
theorem aOS (F:OK C σ a w S ρ κ) (o:Option Operand) (d:Nat):(o=none->Bnd (o.map a.eval) d d)∧(∀G m,o.map (evO σ.s)=some (.v (.int G m))->0<=m->Bnd (o.map a.eval) d m.toNat):=by
 refine⟨λh=>by subst h;exact .inl ⟨rfl,rfl⟩,λG m h H=>?_⟩;cases o with
 |none=>simp at h
 | some o =>
  simp only[AU,Ab] at h;have:=F.ev o
  all_goals grind [dD,Bnd]
theorem aMy (M:OK C σ a w S ρ κ) {t:TypeId} (hu:P.underlying t=some .string) {x:Operand}{G F:Option Operand}
  (H:rd (evO σ.s) σ.h K (.sstr x G F)):Ans P S w ρ κ σ.h K (Instr.sliceAt t (a.eval x) (G.map a.eval) (F.map a.eval) none):=by
 have V:=M.ev x;generalize a.eval x=va at V⊢;have J:=aOS M;simp only[rd] at H;split at H
 .rename_i s hc;rw[hc] at V;obtain rfl:=dD V
  have I:∀(lo hi:Int),(0<=lo∧lo<=hi∧hi<=s.size)∧K (.v (.string (s.extract lo.toNat hi.toNat)))->Bnd (G.map a.eval) 0 lo.toNat->Bnd (F.map a.eval) s.size hi.toNat->
    Ans P S w ρ κ σ.h K (Instr.sliceAt t (.string s) (G.map a.eval) (F.map a.eval) none):=by
   rintro lo hi ⟨⟨h0,h1,h2⟩,hK⟩ b1 b2;exact⟨_,_,hK,aFR hu b1 b2 (by omega) (by omega),.clo (.v _)⟩
  split at H
  .rename_i O U;have Y:G=none:=by cases G<;>simp_all
   have Z:F=none:=by cases F<;>simp_all
   exact I _ _ H (by simpa using(J G 0).1 Y) (by simpa using(J F s.size).1 Z)
  .rename_i kk m O U;have Z:F=none:=by cases F<;>simp_all
   exact I _ _ H ((J G 0).2 _ _ O H.1.1) (by simpa using(J F s.size).1 Z)
  .rename_i kk m O U;have Y:G=none:=by cases G<;>simp_all
   exact I _ _ H (by simpa using(J G 0).1 Y) ((J F s.size).2 _ _ U (by have:=H.1;omega))
  all_goals grind
 .exact H.elim
theorem aMz (I:OK C σ a w S ρ κ) {o:Oper}{x:Operand} (O:o.op=.nilCheck x) (G:rd (evO σ.s) σ.h K (.nilc x)) :
  ∃J v,K J∧(execOp a.eval o).run P w=.ok (.value v) w∧RV S w ρ κ σ.h J v:=by
 have F:=I.ev x;simp only[execOp,O];generalize a.eval x=va at F⊢;simp only[rd] at G;split at G
 .rename_i c H;rw[H] at F;cases xI F with
  |ro _ y off xs hS hcell hone hr=>exact⟨_,_,G,rfl,F⟩
 .rename_i n e c H;rw[H] at F;split at G
  .rename_i b M;obtain⟨y,U,rfl⟩:=eH F _ M;exact⟨_,_,G,rfl,F⟩
  .exact G.elim
 .rename_i f c H;rw[H] at F;obtain⟨vs,rfl,_⟩:=aDJ F;exact⟨_,_,G,rfl,F⟩
 .exact G.elim
theorem aHj (G:OK C σ a w S ρ κ) {x:Operand}{i:Nat} (F:rd (evO σ.s) σ.h K (.extract x i)):Ans P S w ρ κ σ.h K (Instr.extract (a.eval x) i):=by
 have H:=G.ev x;generalize a.eval x=va at H⊢;simp only[rd] at F;split at F
 .rename_i c I;rw[I] at H;obtain⟨vs,rfl,M,J⟩:=aCU H;refine⟨_,_,F.2,?_,J i F.1⟩;simp[Instr.extract,show i<vs.size by have:=F.1;omega]
 .exact F.elim
theorem aMA (G:OK C σ a w S ρ κ) {f:FuncId}{caps:List Operand} (J:rd (evO σ.s) σ.h K (.mkfn f caps)) :
  Ans P S w ρ κ σ.h K (Instr.makeFunc (.func f) #[] (caps.toArray.map a.eval)):=by
 refine⟨_,_,J,rfl,.fn _ _ _ (by simp) λj F=>?_⟩;simp only[Bh] at F;have H:(caps.map (evO σ.s)).getD j .junk=evO σ.s caps[j]:=by simp[List.getD,F]
 have I:(caps.toArray.map a.eval).getD j undef=a.eval caps[j]:=by simp[F]
 rw[H,I];exact G.ev _
theorem aNJ (F:OK C σ a w S ρ κ) {mx:Bool}{t:Array TypeId}{T:TypeId}{x y:Operand} (G:rd (evO σ.s) σ.h K (.mm mx x y)) :
  Ans P S w ρ κ σ.h K (if mx then Builtin.max_ t T #[a.eval x,a.eval y] else Builtin.min_ t T #[a.eval x,a.eval y]):=by
 have H:=F.ev x;have I:=F.ev y;generalize a.eval x=va at H⊢;generalize a.eval y=vb at I⊢;simp only[rd] at G;split at G
 .rename_i k n O m J M;rw[J] at H;rw[M] at I;obtain rfl:=dD H;obtain rfl:=dD I;cases mx
  .exact⟨_,_,G,by simp[Builtin.min_,Builtin.min2],.clo (.v _)⟩
  .exact⟨_,_,G,by simp[Builtin.max_,Builtin.max2],.clo (.v _)⟩
 .exact G.elim
end
section
variable [Envs]
variable {P:Program}{C:Ctx}{σ:FSt}{a:Act}{w:World}{S:Nat->Prop}{ρ:Name->Option Nat}{κ:Name->Nat}{K:AV->Prop}{h:Name->Option Blk}
theorem aAe {x:AV}{v:Value} (G:RV S w ρ κ h x v) (F:tH h x=true):v.oneCell'=true:=by
 cases x with
 |v y=>obtain rfl:=dD G;exact F
 |sl k l=>cases yX G;rfl
 |ro c=>cases xI G;rfl
 |fn f c=>obtain⟨vs,rfl,_⟩:=aDJ G;rfl
 | loc n off len =>
  simp only[tH] at F;split at F
  .rename_i H;obtain⟨_,I,cap,rfl,_⟩:=iT G _ _ _ H;rfl
  .cases F
 | ptr n e c =>
  simp only[tH] at F;obtain⟨b,H⟩:=AA.1 F;obtain⟨y,_,rfl⟩:=eH G _ H;rfl
 |agg c=>simp[tH] at F
 |tup c=>simp[tH] at F
 |junk=>simp[tH] at F
def Cells (S:Nat->Prop) (w:World) (ρ:Name->Option Nat) (κ:Name->Nat) (h:Name->Option Blk) (c:List AV) (vs:Array Value):Prop:=
 c.length=vs.size∧∀j,j<c.length->RV S w ρ κ h (c.getD j .junk) (vs.getD j undef)
theorem aDW {x:AV}{v:Value} (J:RV S w ρ κ h x v) {c:List AV} (G:lV h x=some c) :
  Cells S w ρ κ h c v.cells∧(∀j,j<c.length->(v.cells.getD j undef).oneCell'=true):=by
 have F:∀x:AV,(tH h x=true)->RV S w ρ κ h x v->Cells S w ρ κ h [x] v.cells∧(∀j,j < [x].length->(v.cells.getD j undef).oneCell'=true):=by
  intro x M J;have V:=aAe J M;have e:v.cells=#[v]:=by cases v<;>simp_all [Value.cells,Value.oneCell']
  rw[e];refine⟨⟨rfl,λj H=>?_⟩,λj H=>?_⟩
  .simp only[Cf] at H;obtain rfl:j=0:=by omega
   exact J
  .simp only[Cf] at H;obtain rfl:j=0:=by omega
   exact V
 cases x with
 | agg c' =>
  simp only[lV] at G;split at G
  .rename_i I;obtain rfl:=Ay G;obtain⟨vs,rfl,U,O⟩:=rW J;refine⟨⟨U,O⟩,λj H=>aAe (O j H) ?_⟩;have:=Az.1 I (c'.getD j .junk) (by simp[List.getD,H]);exact this
  .cases G
 | _ =>
  simp only[lV] at G;split at G
  .rename_i M;obtain rfl:=Ay G;exact F _ M J
  .cases G
theorem nG:∀(xs cs:List AV) (o:Nat),(lay cs o xs).length=cs.length
 | [],_,_=>rfl
 |x::r,cs,o=>by rw[lay,nG r];simp
theorem aBp:∀(xs cs:List AV) (o j:Nat),o+xs.length<=cs.length->(lay cs o xs).getD j .junk=if o<=j∧j<o+xs.length then xs.getD (j-o) .junk else cs.getD j .junk
 | [],cs,o,j,_=>by
  have:¬(o<=j∧j<o+([]:List AV).length):=by simp
  rw[lay,AC this]
 | x::r,cs,o,j,h=>by
  rw[lay,aBp r _ _ _ (by simp at h⊢;omega)];simp only[Ac] at h⊢;by_cases F:o+1<=j∧j<o+1+r.length
  .rw[AP F,AP (by omega)];have:j-o=(j-(o+1))+1:=by omega
   rw[this];simp
  .rw[AC F];by_cases h2:j=o
   .subst h2;rw[AP (by omega)];have:j<cs.length:=by omega
    simp[List.getD,this]
   .rw[AC (by omega)];simp[List.getD,C9 (DN h2)]
theorem aAK:∀(l:List Value) (i o:Nat) (cs:Array Value),o+i+l.length<=cs.size->
  ((l.zipIdx i).foldl (λcs (p:Value×Nat)=>cs.setIfInBounds (o+p.2) p.1) cs).size=cs.size∧
  ∀j,((l.zipIdx i).foldl (λcs (p:Value×Nat)=>cs.setIfInBounds (o+p.2) p.1) cs).getD j undef=if o+i<=j∧j<o+i+l.length then l.getD (j-(o+i)) undef else cs.getD j undef
 | [],i,o,cs,_=>⟨rfl,λj=>by
     have:¬(o+i<=j∧j<o+i+([]:List Value).length):=by simp
     rw[AC this];rfl⟩
 | x::r,i,o,cs,h=>by
  simp only[Ac] at h;obtain⟨H,h2⟩:=aAK r (i+1) o (cs.setIfInBounds (o+i) x) (by simp;omega);simp only[List.zipIdx_cons,List.foldl_cons];refine⟨by rw[H];simp,λj=>?_⟩;rw[h2 j];simp only[Ac];by_cases F:o+(i+1)<=j∧j<o+(i+1)+r.length
  .rw[AP F,AP (by omega)];have:j-(o+i)=(j-(o+(i+1)))+1:=by omega
   rw[this];simp
  .rw[AC F];by_cases G:j=o+i
   .subst G;rw[AP (by omega)];simp[show o+i<cs.size by omega]
   .rw[AC (by omega)];simp[CL (DN G)]
theorem getD_toList (vs:Array Value) (j:Nat):vs.toList.getD j undef=vs.getD j undef:=by
 simp[List.getD]
theorem aCW (ha:OK C σ a w S ρ κ) (G:Nat->Option (Nat×Nat)):∀(F:List (Nat×Operand)) (rp:List (Nat×Nat×Operand)) (cs:List AV) (vs:Array Value) {K:List AV->Prop},
  F.map (λp=>(G p.1).map λq=>(q.1,q.2,p.2))=rp.map some->Cells S w ρ κ σ.h cs vs->layAll (evO σ.s) σ.h cs rp K->
  ∃ J I,K J∧Instr.fill G vs (F.map λp=>(p.1,a.eval p.2))=some I∧Cells S w ρ κ σ.h J I∧
   ((∀j,j<vs.size->(vs.getD j undef).oneCell'=true)->∀j,j<I.size->(I.getD j undef).oneCell'=true)
 | [],[],cs,vs,K,_,hc,O=>⟨cs,vs,O,rfl,hc,λh=>h⟩
 | [],_::_,_,_,_,h,_,_=>by simp at h
 |_::_,[],_,_,_,h,_,_=>by simp at h
 | (i,x)::F,(o,n,y)::rp,cs,vs,K,h,hc,O=>by
  simp only[Bt,List.cons.injEq] at h;obtain⟨V,h2⟩:=h;cases hp:G i with
  |none=>rw[hp] at V;simp at V
  | some q =>
   rw[hp] at V;simp only[AU,Ab,AL] at V;obtain⟨rfl,rfl,rfl⟩:=V;simp only[layAll] at O;split at O
   .rename_i c hm;obtain⟨⟨hn,hq⟩,O⟩:=O;obtain⟨⟨hg,hk⟩,hb⟩:=aDW (ha.ev x) hm;obtain⟨hl,hr⟩:=hc;have Y:=aAK (a.eval x).cells.toList 0 q.1 vs (by simp;omega);simp only[Cu,BP,←hg] at Y
    have M:Cells S w ρ κ σ.h (lay cs q.1 c) (((a.eval x).cells.toList.zipIdx 0).foldl (λcs (p:Value×Nat)=>cs.setIfInBounds (q.1+p.2) p.1) vs):=by
     refine⟨by rw[nG,Y.1];exact hl,λj Z=>?_⟩;rw[nG] at Z;rw[aBp _ _ _ _ (by omega),Y.2 j];by_cases H:q.1<=j∧j<q.1+c.length
     .rw[AP H,AP H,getD_toList];exact hk _ (by omega)
     .rw[AC H,AC H];exact hr j Z
    obtain⟨J,I,hd,U,he,ho⟩:=aCW ha G F rp _ _ h2 M O;refine⟨J,I,hd,?_,he,λhv=>ho λj Z=>?_⟩
    .have hz:(a.eval x).cells.zipIdx.foldl (λcs (p:Value×Nat)=>cs.setIfInBounds (q.1+p.2) p.1) vs=((a.eval x).cells.toList.zipIdx 0).foldl (λcs (p:Value×Nat)=>cs.setIfInBounds (q.1+p.2) p.1) vs:=by
      rw[←Array.foldl_toList,Array.toList_zipIdx]
     simp only[Bt,Instr.fill,hp];rw[AC (by simp;omega)];rw[←U,←hz]
    .rw[Y.1] at Z;rw[Y.2 j];by_cases H:q.1<=j∧j<q.1+c.length
     .rw[AP H,getD_toList];exact hb _ (by omega)
     .rw[AC H];exact hv j Z
   .exact O.elim
end
section
variable [Envs]
mutual
def nQ:AV->Bool
 |.v _=>true
 |.sl _ _=>true
 |.ro _=>true
 |.fn _ c=>uV c
 |.agg c=>uV c
 |.tup c=>uV c
 |_=>false
def uV:List AV->Bool
 | []=>true
 |x::r=>nQ x&&uV r
end
theorem nP:∀{c:List AV}{j:Nat},uV c=true->j<c.length->nQ (c.getD j .junk)=true
 | [],_,_,hj=>by simp at hj
 |x::r,0,h,_=>by simp[uV] at h;simpa using h.1
 |x::r,j+1,h,hj=>by simp[uV] at h;simpa using nP (c:=r) (j:=j) h.2 (by simpa using hj)
variable {P:Program}{C:Ctx}{σ:FSt}{a:Act}{w:World}{S:Nat->Prop}{ρ:Name->Option Nat}{κ:Name->Nat}{h:Name->Option Blk}
theorem RV.closed {x:AV}{v:Value} (H:RV S w ρ κ h x v) (F:nQ x=true):RC S w x v:=by
 induction H with
 |junk v=>simp[nQ] at F
 |clo H=>exact H
 |loc n off len v hv=>simp[nQ] at F
 |ptr n e c v hv=>simp[nQ] at F
 |fn f c vs hl hr ih=>simp only[nQ] at F;exact .fn f c vs hl λj G=>ih j G (nP F G)
 |agg c vs hl hr ih=>simp only[nQ] at F;exact .agg c vs hl λj G=>ih j G (nP F G)
 |tup c vs hl hr ih=>simp only[nQ] at F;exact .tup c vs hl λj G=>ih j G (nP F G)
def rowsOf (k:Nat):Nat->List AV->List (List AV)
 |0,_=>[]
 |m+1,cs=>cs.take k::rowsOf k m (cs.drop k)
def al (ev:Operand->AV) (h:Name->Option Blk) (n:Name) (K:AV->Blk->Prop):AOp->Prop
 | .box x=>match lV h (ev x) with
  |some c=>K (.ptr n 0 0) (.var c false)
  |none=>False
 |.alloc z=>z.all (λx=>tH h x&&nQ x)=true∧K (.ptr n 0 0) (.var z false)
 | .bslice k m z parts=>(z.length=k∧m*k<=2 ^ 24∧m<=2 ^ 24∧z.all (tH h)=true)∧layAll ev h (List.flatten (List.replicate m z)) (parts.map λ(i,x)=>(i*k,k,x)) λcs =>
   uV cs=true∧K (.loc n 0 m) (.arr k (rowsOf k m cs) false)
 | .mk k bytes z x=>match ev x with
  |.v (.int .i64 i)=>(0<=i∧i*bytes<=2 ^ 47∧i<2 ^ 63∧z.length=k∧z.all (λx=>tH h x&&nQ x)=true)∧K (.loc n 0 i.toNat) (.arr k (List.replicate i.toNat z) false)
  |_=>False
 |_=>False
theorem aAn (w:World) (o:Obj):({w with heap:=w.heap.push o}:World).heap[w.heap.size]? = some o:=by simp
theorem OK.addVar (F:OK C σ a w S ρ κ) {n:Name} (V:gY n σ) {c:List AV}{cs:Array Value}{T:TypeId} (J:Cells S w ρ κ σ.h c cs) (U:∀j,j<c.length->(cs.getD j undef).oneCell'=true) (hn:mD n c=false) :
  ∃ ρ' κ',OK C ⟨σ.s,hput σ.h n (some (.var c false))⟩ a {w with heap:=w.heap.push (.cells cs T)} S ρ' κ'∧
   RV S {w with heap:=w.heap.push (.cells cs T)} ρ' κ' (hput σ.h n (some (.var c false))) (.ptr n 0 0) (.pointer (some ⟨w.heap.size,0,none⟩)):=by
 have G:=Ext.push w (.cells cs T);refine⟨_,_,F.add G V (b:=.var c false) (ox:=some w.heap.size) (kn:=cs.size) (λx hx=>by rw[←Ay hx];exact Au _) ?_,?_⟩
 .intro ρ' κ' h' M O Y;refine⟨w.heap.size,cs,T,(0,0),M,aAn _ _,λj _ H=>by omega,λ_ Z=>?_,by simp,O.symm,by rw[J.1];exact Au _,λj H=>⟨U j H,(J.2 j H).mono (λ_ h=>h) (λb I=>G.2.1 b (F.hok.dom b I)) λm hh=>Y m ?_⟩⟩
  .exact absurd (F.hok.dom _ Z) (Dh _)
  .grind [sJ]
 .refine .ptr _ _ _ _ λb I=>?_
  all_goals grind
theorem OK.addArr (F:OK C σ a w S ρ κ) {w':World} (G:Ext w w') {n:Name} (hf:gY n σ) {k:Nat}{l:List (List AV)}{cs:Array Value}{T:TypeId}{fr:Nat×Nat}{x:Nat} (J:w.heap.size<=x) (hx:w'.heap[x]? = some (.cells cs T fr)) (I:aHY fr cs.size)
  (hk:∀i,i<l.length->(l.getD i []).length=k) (H:l.length*k<=cs.size)
  (V:∀i j,i<l.length->j<k->(cs.getD (i*k+j) undef).oneCell'=true∧RC S w ((l.getD i []).getD j .junk) (cs.getD (i*k+j) undef)) {cap:Nat} (O:l.length<=cap∧cap<2 ^ 63∧cap*k<=cs.size) :
  ∃ ρ' κ',OK C ⟨σ.s,hput σ.h n (some (.arr k l false))⟩ a w' S ρ' κ'∧
   RV S w' ρ' κ' (hput σ.h n (some (.arr k l false))) (.loc n 0 l.length) (.slice (some ⟨x,0,none⟩) l.length cap):=by
 refine⟨_,_,F.add G hf (b:=.arr k l false) (ox:=some x) (kn:=cs.size) (λy hy=>by rw[←Ay hy];exact J) ?_,?_⟩
 .intro ρ' κ' h' Y Z hm;refine⟨hk,.inr ⟨x,cs,T,fr,Y,hx,I,λ_ hs=>?_,by simp,Z.symm,H,λi j hi U=>⟨(V i j hi U).1,(V i j hi U).2.mono (λ_ h=>h) λb M=>G.2.1 b (F.hok.dom b M)⟩⟩⟩;have:=F.hok.dom _ hs;omega
 .refine .loc _ _ _ _ λk' l' z M=>?_
  all_goals grind [hput]
def Made (P:Program) (C:Ctx) (σ:FSt) (a:Act) (w:World) (S:Nat->Prop) (n:Name) (K:AV->Blk->Prop) (s:Sem Value):Prop:=
 ∃x b v w',K x b∧s.run P w=.ok v w'∧(gY n σ->b.has n=false->∃ρ' κ',OK C ⟨σ.s,hput σ.h n (some b)⟩ a w' S ρ' κ'∧RV S w' ρ' κ' (hput σ.h n (some b)) x v)
variable {K:AV->Blk->Prop}{n:Name}
theorem aOY (F:OK C σ a w S ρ κ) {T:TypeId}{x:Operand} (G:al (evO σ.s) σ.h n K (.box x)):Made P C σ a w S n K (Instr.box T (a.eval x)):=by
 have I:=F.ev x;generalize a.eval x=va at I⊢;simp only[al] at G;split at G
 .rename_i c M;obtain⟨H,J⟩:=aDW I M;refine⟨_,_,.pointer (some ⟨w.heap.size,0,none⟩),{w with heap:=w.heap.push (.cells va.cells T)},G,?_,λO U=>?_⟩
  .simp[Instr.box,newVar,newRow]
  .exact F.addVar O H J (by simpa[Blk.has] using U)
 .exact G.elim
def zOf (P:Program) (t:TypeId):Option (Array Value):=match P.info? t with|some i=>i.zero.map (·.cells)|none=>none
theorem aA1 {t:TypeId}{z:Array Value} (h:zOf P t=some z) (w:World):∃v,(zeroValue t).run P w=.ok v w∧v.cells=z:=by
 unfold zOf at h;cases hi:P.info? t with
 |none=>simp[hi] at h
 | some i =>
  simp only[hi] at h;cases hz:i.zero with
  |none=>simp[hz] at h
  |some v=>exact⟨v,by simp[zeroValue,typeInfo,hi,hz],by simpa[hz] using h⟩
theorem uO (cs:Array Value):Cells S w ρ κ h (cs.toList.map λx=>.v x) cs:=by
 refine⟨by simp,λj F=>?_⟩;simp only[Bh,BP] at F;simp[List.getD,F];exact .clo (.v _)
theorem aBA {p:AV->Bool}{l:List AV} (h:l.all p=true) {j:Nat} (F:j<l.length):p (l.getD j .junk)=true:=
 Az.1 h _ (by simp[List.getD,F])
theorem aMb (H:OK C σ a w S ρ κ) {T:TypeId}{z:Array Value} (V:zOf P T=some z) (J:al (evO σ.s) σ.h n K (.alloc (z.toList.map λx=>.v x))):Made P C σ a w S n K (Instr.alloc T true (.tuple #[])):=by
 obtain⟨v,G,rfl⟩:=aA1 V w;simp only[al] at J;obtain⟨F,M⟩:=J;refine⟨_,_,.pointer (some ⟨w.heap.size,0,none⟩),{w with heap:=w.heap.push (.cells v.cells T)},M,?_,λO U=>?_⟩
 .simp[Instr.alloc,newVar,newRow,G]
 .refine H.addVar O (uO _) (λj I=>?_) (by simpa[Blk.has] using U);have:=aBA F I;have h2:=(uO (S:=S) (w:=w) (ρ:=ρ) (κ:=κ) (h:=σ.h) v.cells).2 j I
  all_goals grind [aAe]
theorem aEJ {z:List AV}{k:Nat} (F:z.length=k):∀(m i:Nat),i<m*k->(List.flatten (List.replicate m z)).getD i .junk=z.getD (i%k) .junk
 |0,i,h=>by omega
 | m+1,i,h=>by
  rw[Af,Ao];by_cases hi:i<k
  .grind [Nat.mod_eq_of_lt]
  .have G:0<k:=by
    grind
   have:i%k=(i-k)%k:=by rw[Nat.mod_eq_sub_mod (by omega)]
   rw[this,←aEJ F m (i-k) (by rw[Ch] at h;omega)];simp[List.getD,Bi (show z.length<=i by omega),F]
theorem aCo {z:List AV}{k:Nat} (F:z.length=k) (m:Nat):(List.flatten (List.replicate m z)).length=m*k:=by
 simp[F]
theorem kE (k:Nat):∀(m:Nat) (cs:List AV),(rowsOf k m cs).length=m
 |0,_=>rfl
 |m+1,cs=>by simp[rowsOf,kE k m]
theorem yK (k:Nat):∀(m:Nat) (cs:List AV),cs.length=m*k->∀i,i<m->(((rowsOf k m cs).getD i []).length=k∧∀j,j<k->((rowsOf k m cs).getD i []).getD j .junk=cs.getD (i*k+j) .junk)
 |0,_,_,i,h=>by omega
 | m+1,cs,hl,0,_=>by
  grind [rowsOf]
 | m+1,cs,hl,i+1,h=>by
  rw[Ch] at hl;obtain⟨F,h2⟩:=yK k m (cs.drop k) (by simp;omega) i (by omega)
  all_goals grind [rowsOf]
theorem uJ (z:Array Value) (m k:Nat) (G:z.size=k) (j:Nat) (H:j<m*k):((Array.range (m*k)).map (z[· % z.size]!)).getD j undef=z.getD (j%k) undef:=by
 have I:0<k:=by
  grind
 have F:j%k<z.size:=by rw[G];exact Nat.mod_lt _ I
 simp[H,G,getElem!_pos z (j%k) F,getElem?_pos z (j%k) F]
theorem aKc (hc:OK C σ a w S ρ κ) {t e:TypeId}{k m:Nat}{z:Array Value} (hu:P.underlying t=some (.slice e)) (hk:kX P e=some k) (hz:zOf P e=some z) {F:List (Nat×Operand)}
  (hv:al (evO σ.s) σ.h n K (.bslice k m (z.toList.map λx=>.v x) F)):Made P C σ a w S n K (Instr.buildSlice t m (F.map λp=>(p.1,a.eval p.2)).toArray):=by
 obtain⟨U,he,rfl⟩:=aA1 hz w;simp only[al] at hv;obtain⟨⟨I,hs,hm,hr⟩,hv⟩:=hv;have hg:U.cells.size=k:=by simpa using I
 have ho:Cells S w ρ κ σ.h (List.flatten (List.replicate m (U.cells.toList.map λx=>.v x))) ((Array.range (m*k)).map (U.cells[· % U.cells.size]!)):=by
  refine⟨by rw[aCo I];simp,λj M=>?_⟩;rw[aCo I] at M;rw[aEJ I m j M,uJ _ _ _ hg _ M]
  have O:0<k:=by
   grind
  exact(uO U.cells).2 _ (by rw[I];exact Nat.mod_lt _ O)
 obtain⟨cs,vs,⟨hb,hK⟩,Y,J,hd⟩:=aCW hc (λi=>some (i*k,k)) F _ _ _ (by simp) ho hv
 have H:cs.length=m*k:=by
  have hp:∀(F:List (Nat×Value)) (c c':Array Value),Instr.fill (λi=>some (i*k,k)) c F=some c'->c'.size=c.size:=by
   intro F
   induction F with
   |nil=>intro c c' h;simp[Instr.fill] at h;rw[h]
   | cons p r ih =>
    intro c c' h;simp only[Instr.fill] at h;split at h
    .cases h
    .rename_i V;have:=ih _ _ h;rw[this]
     have hq:p.2.cells.zipIdx.foldl (λcs (q:Value×Nat)=>cs.setIfInBounds (p.1*k+q.2) q.1) c=((p.2.cells.toList.zipIdx 0).foldl (λcs (q:Value×Nat)=>cs.setIfInBounds (p.1*k+q.2) q.1) c):=by
      rw[←Array.foldl_toList,Array.toList_zipIdx]
     have:=(aAK p.2.cells.toList 0 (p.1*k) c (by simp at V⊢;omega)).1;rw[←hq] at this;exact this
  have:=hp _ _ _ Y;rw[J.1,this];simp
 have ha:=hd (λj M=>by
   simp only[Array.size_map,Array.size_range] at M;rw[uJ _ _ _ hg _ M]
   have O:0<k:=by
     grind
   have h2:=(uO (S:=S) (w:=w) (ρ:=ρ) (κ:=κ) (h:=σ.h) U.cells).2 (j%k) (by rw[I];exact Nat.mod_lt _ O);exact aAe h2 (aBA hr (by rw[I];exact Nat.mod_lt _ O)))
 refine⟨_,_,.slice (some ⟨w.heap.size,0,none⟩) m m,{w with heap:=w.heap.push (.cells vs e)},hK,?_,λhf _=>?_⟩
 .have G:Instr.fill (λi=>some (i*k,k)) ((Array.range (m*k)).map (λi=>(if m*k=0 then #[] else U.cells)[i%(if m*k=0 then(#[]:Array Value) else U.cells).size]!)) (F.map λp=>(p.1,a.eval p.2))=some vs:=by
   grind
  have hn:¬(2 ^ 24<m*k):=by omega
  by_cases h0:m*k=0
  .simp only[h0,Bj] at G;simp[Instr.buildSlice,run_underlying hu,run_sizeOf hk,h0,newRow];simp at G;rw[G];simp
  .simp only[h0,Bc] at G;have:¬16777216<m*k:=by omega
   simp[Instr.buildSlice,run_underlying hu,run_sizeOf hk,newRow,he,this];rw[AC h0,G];simp
 .have hl:=hc.addArr (w':={w with heap:=w.heap.push (.cells vs e)}) (Ext.push w _) hf (k:=k) (l:=rowsOf k m cs) (cs:=vs) (T:=e) (fr:=(0,0)) (x:=w.heap.size) (cap:=m) (Au _) (aAn _ _) (λj _ M=>by omega)
   (λi hi=>(yK k m cs H i (by rwa [kE] at hi)).1) (by rw[kE,←J.1,H];exact Au _) (λi j hi M=>?_) ⟨by rw[kE];exact Au _,by omega,by rw[←J.1,H];exact Au _⟩
  .rw[kE] at hl;exact hl
  .rw[kE] at hi
   have Z:i*k+j<m*k:=by
    have:(i+1)*k<=m*k:=Bn k hi;rw[Ch] at this;omega
   refine⟨ha _ (by rw[←J.1,H];exact Z),?_⟩;rw[(yK k m cs H i hi).2 j M];exact(J.2 _ (by rw[H];exact Z)).closed (nP hb (by rw[H];exact Z))
theorem al_mk (O:OK C σ a w S ρ κ) {t e:TypeId}{i:TypeInfo}{G:Value} (hu:P.underlying t=some (.slice e)) (hi:P.info? e=some i) (hz:i.zero=some G) {x:Operand}
  (Y:al (evO σ.s) σ.h n K (.mk i.size i.bytes (G.cells.toList.map λx=>.v x) x)):Made P C σ a w S n K (Instr.makeSlice t (a.eval x) (a.eval x)):=by
 have hx:=O.ev x;generalize a.eval x=va at hx⊢;simp only[al] at Y;split at Y
 .rename_i m hc;rw[hc] at hx;obtain rfl:=dD hx;obtain⟨⟨h0,h1,h2,Z,J⟩,hK⟩:=Y;have hd:G.cells.size=i.size:=by simpa using Z
  have U:=run_make (P:=P) w t e i G hu hi hz .i64 .i64 m m h0 (by omega) (by rw[Int.mul_comm];omega) (by omega);refine⟨_,_,_,_,hK,U,λhf _=>?_⟩;have hb:∀j,j<m.toNat*i.size->(madeCells G.cells (m.toNat*i.size)).getD j undef=G.cells.getD (j%i.size) undef:=λj H=>uJ _ _ _ hd _ H;have F:(List.replicate m.toNat (G.cells.toList.map λx=>AV.v x)).length=m.toNat:=by simp
  have I:∀j,j<m.toNat->(List.replicate m.toNat (G.cells.toList.map λx=>AV.v x)).getD j []=(G.cells.toList.map λx=>AV.v x):=by
   intro j H;simp[List.getD,H]
  have V:=O.addArr (w':=w.alloc (.cells (madeCells G.cells (m.toNat*i.size)) e)) (Ext.push w _) hf (k:=i.size) (l:=List.replicate m.toNat (G.cells.toList.map λx=>.v x)) (cs:=madeCells G.cells (m.toNat*i.size)) (T:=e) (fr:=(0,0)) (x:=w.heap.size) (cap:=m.toNat) (Au _) (aAn _ _) (λj _ H=>by omega)
   (λj H=>by rw[F] at H;rw[I j H];exact Z) (by rw[F,size_madeCells];exact Au _) (λp j hp H=>?_) ⟨by rw[F];exact Au _,by omega,by rw[size_madeCells];exact Au _⟩
  .rw[F] at V;exact V
  .rw[F] at hp
   have ha:p*i.size+j<m.toNat*i.size:=by
    have:(p+1)*i.size<=m.toNat*i.size:=Bn _ hp;rw[Ch] at this;omega
   rw[hb _ ha,I p hp];have e1:(p*i.size+j)%i.size=j:=by rw[Nat.mul_comm,Nat.mul_add_mod,Nat.mod_eq_of_lt H]
   rw[e1];have M:j<(G.cells.toList.map λx=>AV.v x).length:=by rw[Z];exact H
   have h4:=(uO (S:=S) (w:=w) (ρ:=ρ) (κ:=κ) (h:=σ.h) G.cells).2 j M;have h5:=aBA J M;simp only[Aw] at h5;exact⟨aAe h4 h5.1,h4.closed h5.2⟩
 .exact Y.elim
end
section
variable [Envs]
variable {P:Program}{C:Ctx}{σ:FSt}{a:Act}{w:World}{S:Nat->Prop}{ρ:Name->Option Nat}{κ:Name->Nat}{h:Name->Option Blk}
def gX (w:World) (x:Nat) (o:Obj):World:={w with heap:=w.heap.setIfInBounds x o}
theorem uH (w:World) (x:Nat) (o:Obj):(gX w x o).heap.size=w.heap.size:=by simp[gX]
theorem nI (w:World) {x y:Nat} (o:Obj) (F:y≠x):(gX w x o).heap[y]? = w.heap[y]?:=by
 simp[gX,CL (DN F)]
theorem lt_of_heap {w:World}{x:Nat}{o:Obj} (h:w.heap[x]? = some o):x<w.heap.size:=by
 grind
theorem u7 {w:World}{x:Nat}{G:Obj} (o:Obj) (F:w.heap[x]? = some G):(gX w x o).heap[x]? = some o:=by
 simp[gX,lt_of_heap F]
def xX:Array Value->Nat->List Value->Array Value
 |cs,_,[]=>cs
 |cs,o,v::r=>xX (cs.setIfInBounds o v) (o+1) r
theorem iV:∀(vs:List Value) (cs:Array Value) (o:Nat),(xX cs o vs).size=cs.size
 | [],_,_=>rfl
 |v::r,cs,o=>by rw[xX,iV r];simp
theorem wK:∀(vs:List Value) (cs:Array Value) (o j:Nat),o+vs.length<=cs.size->(xX cs o vs).getD j undef=if o<=j∧j<o+vs.length then vs.getD (j-o) undef else cs.getD j undef
 | [],cs,o,j,_=>by
  grind [xX]
 | x::r,cs,o,j,h=>by
  simp only[Ac] at h;rw[xX,wK r _ _ _ (by simp;omega)];simp only[Ac];by_cases F:o+1<=j∧j<o+1+r.length
  .grind
  .rw[AC F];by_cases h2:j=o
   .subst h2;rw[AP (by omega)];simp[show j<cs.size by omega]
   .rw[AC (by omega)];simp[CL (DN h2)]
theorem aFP {x o:Nat}{cs:Array Value}{T:TypeId}{fr:Nat×Nat} (F:w.heap[x]? = some (.cells cs T fr)) (v:Value) :
  w.setCell ⟨x,o,none⟩ v=gX w x (.cells (cs.setIfInBounds o v) T fr):=by
 unfold World.setCell gX;congr 1
 all_goals grind
theorem aD9 (w:World) (x:Nat) (o F:Obj):gX (gX w x o) x F=gX w x F:=by
 unfold gX;simp
theorem oH {x o:Nat}{T:TypeId}{fr:Nat×Nat}:∀(vs:List Value) (i:Nat) (cs:Array Value) (w:World),w.heap[x]? = some (.cells cs T fr)->aHY fr cs.size->
  o+i+vs.length<=cs.size->(∀v∈vs,v.oneCell'=true)->(storeCells ⟨x,o,none⟩ vs i).run P w=.ok () (gX w x (.cells (xX cs (o+i) vs) T fr))
 | [],i,cs,w,hx,_,_,_=>by
  have:gX w x (.cells cs T fr)=w:=by
   unfold gX;have J:=lt_of_heap hx;have H:w.heap[x]=.cells cs T fr:=by simpa[J] using hx
   congr 1
   all_goals grind
  simp[storeCells,xX,this]
 | v::r,i,cs,w,hx,ht,hl,H=>by
  simp only[Ac] at hl;have F:w.cell? ⟨x,o+i,none⟩=some (cs.getD (o+i) undef):=cell_of_row hx (by omega)
  have I:w.frozen? ⟨x,o+i,none⟩=false:=by
   grind [World.frozen?,aHY]
  have G:=run_store P w ⟨x,o+i,none⟩ v .plain (H v (by simp));rw[F] at G;simp only[I,AO,Bc] at G;rw[aFP hx] at G;simp only[storeCells,addr_add,Sem.run_bind,G,Result.andThen_ok];have M:=u7 (.cells (cs.setIfInBounds (o+i) v) T fr) hx;rw[oH r (i+1) (cs.setIfInBounds (o+i) v) _ M (by simpa using ht) (by simp;omega) (λu O=>H u (by simp[O])),aD9];rfl
theorem OK.write (F:OK C σ a w S ρ κ) {n:Name}{b J:Blk}{x:Nat}{w':World} (hb:σ.h n=some b) (hx:ρ n=some x) (hS:¬S x) (O:w'.heap.size=w.heap.size)
  (hw:∀y,y≠x->w'.heap[y]? = w.heap[y]?) (ho:w'.os=w.os∧w'.output=w.output) (Y:b.same J)
  (ha:∀h',(∀m,gW ρ ρ κ κ σ.h h' m)->xU S w' ρ κ h' n J):OK C ⟨σ.s,hput σ.h n (some J)⟩ a w' S ρ κ:=by
 have hn:∀m,gW ρ ρ κ κ σ.h (hput σ.h n (some J)) m:=by
  intro m c H;by_cases M:m=n
  .grind [hput]
  .simp only[hput,M,Bc] at H;exact⟨rfl,rfl,c,H,c.same_refl⟩
 have G:∀y,S y->w'.heap[y]? = w.heap[y]?:=λy I=>hw y (λe=>hS (e ▸ I))
 refine ⟨F.nt,F.defers,λt=>(F.slots t).mono (λ_ h=>h) G λm _=>hn m,⟨λm c H=>?_,λm V y Z h2 h3 h4=>?_,λy I=>(by rw[O];exact F.hok.dom y I),F.hok.env.mono (λ_ h=>h) G⟩,
   (by rw[O];exact F.size),λy I M=>?_,λm y Z h2=>?_,F.S0,F.Snew,⟨ho.1.trans F.out.1,ho.2.trans F.out.2⟩,λj c H=>?_⟩
 rotate_right
 .grind [Blk.same_trans,OK,hput]
 .by_cases M:m=n
  .grind [hput]
  .simp only[hput,M,Bc] at H;refine(F.hok.blk m c H).mono (λ_ h=>h) (λ_ _ h=>h) G (λy I=>hw y ?_) rfl rfl λV _=>hn V;rintro rfl;exact M (F.hok.inj m n y (by simp[H]) (by simp[hb]) I hx)
 .have U:∀m,(hput σ.h n (some J) m).isSome->(σ.h m).isSome:=by
   grind [hput]
  exact F.hok.inj m V y (U m Z) (U V h2) h3 h4
 all_goals grind [hput,OK]
def Blk.setRow:Blk->Nat->List AV->Blk
 |.var _ z,_,r=>.var r z
 |.arr k l z,e,r=>.arr k (l.set e r) z
def Blk.okc:Blk->List AV->Bool
 |.var _ _,_=>true
 |.arr _ _ _,c=>uV c
def aBx (l:List (List AV)) (off len:Nat) (z:List AV):List (List AV):=l.take off++(List.replicate len z++l.drop (off+len))
theorem uN {l:List (List AV)}{off len:Nat}{z:List AV} (h:off+len<=l.length):(aBx l off len z).length=l.length:=by simp[aBx];omega
theorem aJ5 (l:List (List AV)) (off:Nat) (z:List AV):aBx l off 0 z=l:=by simp[aBx]
theorem aEN {l:List (List AV)}{off len:Nat}{z:List AV} (h:off+len<=l.length) (i:Nat):(aBx l off len z).getD i []=if off<=i∧i<off+len then z else l.getD i []:=by
 grind [aBx]
def wrC (k:Nat) (z:List AV) (ev:Operand->AV) (h:Name->Option Blk) (X:Operand) (K:(Name->Option Blk)->Prop):Prop:=
 match ev X with
 | .loc n off len=>match h n with
  |some (.arr k' l fz)=>(fz=false∧k'=k∧z.length=k∧(z.all λx=>tH h x&&nQ x)=true∧off+len<=l.length)∧K (hput h n (some (.arr k (aBx l off len z) false)))
  |_=>False
 |_=>False
theorem aNZ (J:OK C σ a w S ρ κ) {t e ty:TypeId}{i:TypeInfo}{F:Value} (hu:P.underlying t=some (.slice e)) (hi:P.info? e=some i) (hz:i.zero=some F) {X:Operand}{K:(Name->Option Blk)->Prop}
  (O:wrC i.size (F.cells.toList.map λx=>.v x) (evO σ.s) σ.h X K) :
  ∃h' w',K h'∧(Builtin.clear_ #[t] ty #[a.eval X]).run P w=.ok (.tuple #[]) w'∧OK C ⟨σ.s,h'⟩ a w' S ρ κ:=by
 have hX:=J.ev X;generalize a.eval X=vx at hX⊢;simp only[wrC] at O;split at O
 .rename_i n off len hc;rw[hc] at hX;split at O
  .rename_i k' l fz hb;obtain⟨⟨rfl,rfl,Z,he,H⟩,hK⟩:=O;obtain⟨_,ha,cap,rfl,hs,hr,V,_⟩:=iT hX _ _ _ hb;cases len with
   | zero =>
    refine⟨_,w,hK,?_,?_⟩
    .cases ha<;>simp[Builtin.clear_,run_underlying hu]
    .have:hput σ.h n (some (.arr i.size (aBx l off 0 (F.cells.toList.map λx=>.v x)) false))=σ.h:=by
      funext m
      all_goals grind [aJ5,hput]
     rw[this];exact J
   | succ len =>
    obtain⟨x,hx,rfl⟩:=V (by omega);obtain⟨h0,⟨h1,h2⟩|⟨y,U,T',fr,h1,h2,h3,h4,_,h5,h6,h7⟩⟩:=J.hok.blk n _ hb
    .rw[h1] at hx;cases hx
    obtain rfl:=Ay (hx.symm.trans h1);have hq:F.cells.size=i.size:=by simpa using Z
    have G:(Builtin.zeroCells F.cells (len+1)).size=(len+1)*i.size:=by simp[Builtin.zeroCells,hq]
    have M:∀j,j<(len+1)*i.size->(Builtin.zeroCells F.cells (len+1)).getD j undef=F.cells.getD (j%i.size) undef:=by
     grind [uJ,Builtin.zeroCells]
    have Y:∀j,j<i.size->(F.cells.getD j undef).oneCell'=true∧RC S w ((F.cells.toList.map λx=>AV.v x).getD j .junk) (F.cells.getD j undef):=by
     intro j I;have hf:j<(F.cells.toList.map λx=>AV.v x).length:=by rw[Z];exact I
     have h8:=(uO (S:=S) (w:=w) (ρ:=ρ) (κ:=κ) (h:=σ.h) F.cells).2 j hf;have h9:=aBA he hf;simp only[Aw] at h9;exact⟨aAe h8 h9.1,h8.closed h9.2⟩
    have hg:(off+(len+1))*i.size<=l.length*i.size:=Bn _ H;rw[CY] at hg
    have hk:∀v∈(Builtin.zeroCells F.cells (len+1)).toList,v.oneCell'=true:=by
     intro v O;obtain⟨j,I,rfl⟩:=BZ.1 O;simp only[BP,G] at I
     have hm:0<i.size:=by
      grind
     have:=(Y (j%i.size) (Nat.mod_lt _ hm)).1;rw[←M j I] at this;have hl:j<(Builtin.zeroCells F.cells (len+1)).size:=by rw[G];exact I
     simpa[hl] using this
    have ho:=oH (P:=P) (o:=off*i.size) (Builtin.zeroCells F.cells (len+1)).toList 0 U w h2 h3 (by simp only[BP,G];omega) hk;refine⟨_,gX w x (.cells (xX U (off*i.size+0) (Builtin.zeroCells F.cells (len+1)).toList) T' fr),hK,?_,?_⟩
    rotate_left
    .refine J.write hb hx (h4 rfl) (uH _ _ _) (λy hy=>nI _ _ hy) ⟨rfl,rfl⟩ (by simp[Blk.same,uN H]) λh' hn=>?_;have hd:∀y,S y->(gX w x (.cells (xX U (off*i.size+0) (Builtin.zeroCells F.cells (len+1)).toList) T' fr)).heap[y]? = w.heap[y]?:=λy hy=>nI _ _ (λe=>h4 rfl (e ▸ hy));refine⟨λp hp=>?_,.inr ⟨x,_,T',fr,hx,u7 _ h2,by rw[iV];exact h3,λ_=>h4 rfl,by simp,by rw[iV];exact h5,by rw[iV,uN H];exact h6,λp j hp I=>?_⟩⟩
     .rw[uN H] at hp;rw[aEN H];split
      .exact Z
      .exact h0 p hp
     .rw[uN H] at hp;rw[aEN H,wK _ _ _ _ (by simp only[BP,G];omega)];simp only[BP,G,Cu];by_cases hin:off<=p∧p<off+(len+1)
      .have g1:off*i.size<=p*i.size:=Bn _ hin.1;have g2:(p+1)*i.size<=(off+(len+1))*i.size:=Bn _ hin.2;rw[Ch,CY] at g2;rw[AP hin,AP (by omega)]
       have e1:p*i.size+j-off*i.size=(p-off)*i.size+j:=by
        rw[Nat.sub_mul];omega
       have e2:((p-off)*i.size+j)%i.size=j:=by rw[Nat.mul_comm,Nat.mul_add_mod,Nat.mod_eq_of_lt I]
       have e3:(p-off)*i.size+j<(len+1)*i.size:=by rw[Nat.sub_mul];omega
       have:=M _ e3;rw[e2] at this
       have e4:(Builtin.zeroCells F.cells (len+1)).toList.getD (p*i.size+j-off*i.size) undef=F.cells.getD j undef:=by
        rw[e1,←this,getD_toList]
       rw[e4];exact⟨(Y j I).1,(Y j I).2.mono (λ_ h=>h) hd⟩
      .have:¬(off*i.size<=p*i.size+j∧p*i.size+j<off*i.size+(len+1)*i.size):=by
        rintro⟨g1,g2⟩;rcases Db p off with hlt'|hge
        .have:(p+1)*i.size<=off*i.size:=Bn _ hlt';rw[Ch] at this;omega
        .have:(off+(len+1))*i.size<=p*i.size:=Bn _ (by omega);rw[CY] at this;omega
       rw[AC hin,AC this];exact⟨(h7 p j hp I).1,(h7 p j hp I).2.mono (λ_ h=>h) hd⟩
    .simp[Builtin.clear_,run_underlying hu,zeroValue,typeInfo,hi,hz,ho]
  .exact O.elim
 .exact O.elim
def wrS (k:Nat) (ev:Operand->AV) (h:Name->Option Blk) (A X:Operand) (K:(Name->Option Blk)->Prop):Prop:=
 match ev A with
 | .ptr n e c=>match h n,lV h (ev X) with
  |some b,some cs=>(b.fz=false∧0<k∧cs.length=k∧c+k<=(b.row e).length∧b.okc cs=true)∧K (hput h n (some (b.setRow e (lay (b.row e) c cs))))
  |_,_=>False
 |_=>False
theorem aFt (l:List (List AV)) (e i:Nat) (r:List AV) (F:e<l.length):(l.set e r).getD i []=if i=e then r else l.getD i []:=by
 grind
theorem aKe (O:OK C σ a w S ρ κ) {T:TypeId}{k:Nat} (hk:kX P T=some k) {A X:Operand}{K:(Name->Option Blk)->Prop} (V:wrS k (evO σ.s) σ.h A X K) :
  ∃h' w',K h'∧(Instr.storeAt T (a.eval A) (a.eval X)).run P w=.ok () w'∧OK C ⟨σ.s,h'⟩ a w' S ρ κ:=by
 have hA:=O.ev A;have hX:=O.ev X;generalize a.eval A=va at hA⊢;generalize a.eval X=vx at hX⊢;simp only[wrS] at V;split at V
 .rename_i n e c hc;rw[hc] at hA;split at V
  .rename_i b cs hb hq;obtain⟨⟨hz,hw,hp,hd,hl⟩,hK⟩:=V;obtain⟨⟨ha,hm⟩,U⟩:=aDW hX hq;obtain⟨x,hx,rfl⟩:=eH hA _ hb;have hg:=O.hok.blk n b hb
   have hf:∀v∈vx.cells.toList,v.oneCell'=true:=by
    intro v V;obtain⟨j,M,rfl⟩:=BZ.1 V;simp only[BP] at M;have:=U j (by omega);simpa[M] using this
   have G:∀(F:Array Value) (J:TypeId) (fr:Nat×Nat),w.heap[x]? = some (.cells F J fr)->aHY fr F.size->e*b.k+c+k<=F.size->
     (Instr.storeAt T (.pointer (some ⟨x,e*b.k+c,none⟩)) vx).run P w=.ok () (gX w x (.cells (xX F (e*b.k+c) vx.cells.toList) J fr)):=by
    intro F J fr hh ht hr;have hs:=oH (P:=P) (o:=e*b.k+c) vx.cells.toList 0 F w hh ht (by simp;omega) hf;have:¬(vx.cells.size≠k):=by omega
    simp only[Cu] at hs;simp[Instr.storeAt,Instr.sureAddr,storeVar,run_sizeOf hk,←ha,hp,hs]
   cases b with
   | var rc z =>
    simp only[Blk.fz] at hz;subst hz;obtain⟨y,F,J,fr,h1,h2,h3,Y,_,h5,h6,Z⟩:=hg;obtain rfl:=Ay (hx.symm.trans h1)
    have he:e=0:=by
     cases e with
     |zero=>rfl
     |succ e=>simp[Blk.row] at hd;omega
    subst he;simp only[Blk.row,Blk.k,Nat.mul_zero,Ca] at hd G hK⊢;refine⟨_,_,hK,G F J fr h2 h3 (by omega),?_⟩;refine O.write hb hx (Y rfl) (uH _ _ _) (λy hy=>nI _ _ hy) ⟨rfl,rfl⟩ (by simp[Blk.same,Blk.setRow,nG]) λh' hn=>?_;have I:∀y,S y->(gX w x (.cells (xX F c vx.cells.toList) J fr)).heap[y]? = w.heap[y]?:=λy hy=>nI _ _ (λe=>Y rfl (e ▸ hy));refine⟨x,xX F c vx.cells.toList,J,fr,hx,u7 _ h2,by rw[iV];exact h3,λ_=>Y rfl,by simp,by rw[iV];exact h5,by rw[iV,nG];exact h6,λj M=>?_⟩;rw[nG] at M;rw[aBp _ _ _ _ (by omega),wK _ _ _ _ (by simp;omega)];simp only[BP,←ha];by_cases H:c<=j∧j<c+cs.length
    .rw[AP H,AP H,getD_toList];exact⟨U _ (by omega),(hm _ (by omega)).mono (λ_ h=>h) I λm _=>hn m⟩
    .rw[AC H,AC H];exact⟨(Z j M).1,(Z j M).2.mono (λ_ h=>h) I λm _=>hn m⟩
   | arr k' l z =>
    simp only[Blk.fz] at hz;subst hz;simp only[Blk.row,Blk.k] at hd G hK⊢
    have he:e<l.length:=by
     grind
    obtain⟨h0,⟨h1,h2⟩|⟨y,F,J,fr,h1,h2,h3,Y,_,h5,h6,Z⟩⟩:=hg
    .subst h2;simp at he
    obtain rfl:=Ay (hx.symm.trans h1);have hu:(l.getD e []).length=k':=h0 e he
    have h8:e*k'+k'<=F.size:=by
     have:(e+1)*k'<=l.length*k':=Bn _ he;rw[Ch] at this;omega
    refine⟨_,_,hK,G F J fr h2 h3 (by omega),?_⟩;refine O.write hb hx (Y rfl) (uH _ _ _) (λy hy=>nI _ _ hy) ⟨rfl,rfl⟩ (by simp[Blk.same,Blk.setRow]) λh' hn=>?_;have I:∀y,S y->(gX w x (.cells (xX F (e*k'+c) vx.cells.toList) J fr)).heap[y]? = w.heap[y]?:=λy hy=>nI _ _ (λe=>Y rfl (e ▸ hy));refine⟨λi hi=>?_,.inr ⟨x,xX F (e*k'+c) vx.cells.toList,J,fr,hx,u7 _ h2,by rw[iV];exact h3,λ_=>Y rfl,by simp,by rw[iV];exact h5,by rw[iV];simpa using h6,λi j hi M=>?_⟩⟩
    .grind [nG]
    .simp only[Ap] at hi;rw[aFt _ _ _ _ he,wK _ _ _ _ (by simp;omega)];simp only[BP,←ha];by_cases ho:i=e
     .subst ho;rw[AP rfl,aBp _ _ _ _ (by omega)];by_cases H:c<=j∧j<c+cs.length
      .rw[AP H,AP (by omega),getD_toList];have e1:i*k'+j-(i*k'+c)=j-c:=by omega
       rw[e1];exact⟨U _ (by omega),((hm _ (by omega)).closed (nP hl (by omega))).mono (λ_ h=>h) I⟩
      .rw[AC H,AC (by omega)];exact⟨(Z i j hi M).1,(Z i j hi M).2.mono (λ_ h=>h) I⟩
     .rw[AC ho]
      have:¬(e*k'+c<=i*k'+j∧i*k'+j<e*k'+c+cs.length):=by
       rintro⟨g1,g2⟩;rcases Db i e with hlt'|hge
       .have:(i+1)*k'<=e*k':=Bn _ hlt';rw[Ch] at this;omega
       .have:(e+1)*k'<=i*k':=Bn _ (by omega);rw[Ch] at this;omega
      rw[AC this];exact⟨(Z i j hi M).1,(Z i j hi M).2.mono (λ_ h=>h) I⟩
  .exact V.elim
 .exact V.elim
end
section
variable [Envs]
variable {P:Program}{C:Ctx}{σ:FSt}{a:Act}{w:World}{S:Nat->Prop}{ρ:Name->Option Nat}{κ:Name->Nat}{h:Name->Option Blk}
def scr (n:Name) (x:AV):AV:=if x.has n then .junk else x
def aBI (n:Name):Blk->Blk
 |.var c z=>.var (c.map (scr n)) z
 |b=>b
def rM (n:Name) (σ:FSt):FSt:=⟨λt=>scr n (σ.s t),λm=>if m=n then none else(σ.h m).map (aBI n)⟩
theorem OK.kill (G:OK C σ a w S ρ κ) (n:Name):OK C (rM n σ) a w S ρ κ:=by
 have Y:∀c:Blk,c.same (aBI n c):=by
  intro c;cases c<;>simp[aBI,Blk.same]
 have hn:∀m,gW ρ ρ κ κ σ.h (rM n σ).h m:=by
  intro m J F;simp only[rM] at F;split at F
  .cases F
  .cases hm:σ.h m with
   |none=>rw[hm] at F;cases F
   | some c =>
    grind
 have V:∀x v,RV S w ρ κ σ.h x v->RV S w ρ κ (rM n σ).h (scr n x) v:=by
  intro x v hx;unfold scr;split
  .exact .junk _
  .exact hx.mono (λ_ h=>h) (λ_ _=>rfl) λm _=>hn m
 have H:∀m,((rM n σ).h m).isSome->(σ.h m).isSome:=by
  grind [rM]
 refine ⟨G.nt,G.defers,λt=>V _ _ (G.slots t),⟨λm J F=>?_,λm m' y I h2 M O=>G.hok.inj m m' y (H m I) (H m' h2) M O,G.hok.dom,G.hok.env⟩,G.size,G.old,
   λm y I h2=>G.mine m y (H m I) h2,G.S0,G.Snew,G.out,λj J F=>?_⟩
 rotate_left
 .obtain⟨_,_,c,I,h2⟩:=hn (.b j) J F
  all_goals grind [Blk.same_trans,OK]
 simp only[rM] at F;split at F
 .cases F
 .cases hm:σ.h m with
  |none=>rw[hm] at F;cases F
  | some c =>
   rw[hm] at F;simp only[AU,Ab] at F;subst F;have Z:=G.hok.blk m c hm;cases c with
   | var c z =>
    obtain⟨x,cs,T,fr,I,h2,M,O,U,h5,h6,h7⟩:=Z;refine⟨x,cs,T,fr,I,h2,M,O,U,h5,by simpa using h6,λj hj=>?_⟩
    all_goals grind
   |arr k l z=>exact Z
theorem OK.add2 (F:OK C σ a w S ρ κ) {w':World}{n:Name} (hf:gY n σ) {b:Blk}{ox:Option Nat}{kn:Nat} (Y:w.heap.size<=w'.heap.size)
  (hw:∀y,y<w.heap.size->ox≠some y->w'.heap[y]? = w.heap[y]?) (ho:w'.os=w.os∧w'.output=w.output)
  (V:∀x,ox=some x->(∀m,(σ.h m).isSome->ρ m≠some x)∧¬S x∧(C.w0.heap.size<=x∨C.Mut x))
  (hb:∀ρ' κ' h',ρ' n=ox->κ' n=kn->(∀m,m≠n->gW ρ ρ' κ κ' σ.h h' m)->xU S w' ρ' κ' h' n b) :
  OK C ⟨σ.s,hput σ.h n (some b)⟩ a w' S (λm=>if m=n then ox else ρ m) (λm=>if m=n then kn else κ m):=by
 have hn:∀m,m≠n->gW ρ (λm=>if m=n then ox else ρ m) κ (λm=>if m=n then kn else κ m) σ.h (hput σ.h n (some b)) m:=by
  intro m O b' M;simp only[hput,O,Bc] at M⊢;exact⟨trivial,trivial,b',M,b'.same_refl⟩
 have H:∀y,S y->w'.heap[y]? = w.heap[y]?:=λy G=>hw y (F.hok.dom y G) λe=>(V y e).2.1 G;refine⟨F.nt,F.defers,λt=>?_,⟨λm c J=>?_,λm Z y h1 h2 h3 h4=>?_,λy G=>AZ (F.hok.dom y G) Y,F.hok.env.mono (λ_ h=>h) H⟩,Bl F.size Y,λy G O=>?_,λm y h1 h2=>?_,F.S0,F.Snew,⟨ho.1.trans F.out.1,ho.2.trans F.out.2⟩,λj c J=>?_⟩
 rotate_right
 .grind [hput,OK,gY]
 .refine(F.slots t).mono (λ_ h=>h) H λm O=>hn m ?_;rintro rfl;rw[hf.2.1 t] at O;cases O
 .by_cases I:m=n
  .grind [hput]
  .simp only[hput,I,Bc] at J;refine(F.hok.blk m c J).mono (λ_ h=>h) (λ_ _ h=>h) H (λy G=>hw y (F.hok.lt (by simp[J]) G) λe=>(V y e).1 m (by simp[J]) G) (by simp[I]) (by simp[I]) λZ U=>hn Z ?_;rintro rfl;rw[hf.2.2 m c J] at U;cases U
 .by_cases e1:m=n<;>by_cases e2:Z=n
  .rw[e1,e2]
  .grind [hput]
  .grind [hput]
  .simp only[hput,e1,e2,Bc] at h1 h2 h3 h4;exact F.hok.inj m Z y h1 h2 h3 h4
 all_goals grind [hput,OK]
theorem aIe {x:AV}{v:Value} (V:HOK S w ρ κ h) (hx:RV S w ρ κ h x v) {k:Nat}{l:List (List AV)} (H:qQ k h x=some l) :
  ∃ F cap,v=.slice F l.length cap∧(∀i,i<l.length->(l.getD i []).length=k)∧
   ∃b off,(l≠[]->F=some ⟨b,off,none⟩∧b<w.heap.size)∧∀i j,i<l.length->j<k->∃u,w.cell? ⟨b,off+(i*k+j),none⟩=some u∧u.oneCell'=true∧RC S w ((l.getD i []).getD j .junk) u:=by
 unfold qQ at H;split at H
 .rename_i Y Z;split at H
  .rename_i U;subst U;obtain rfl:=Ay H;cases yX hx with
   | sl _ _ F cap b off xs J hc ho hr U M =>
    exact⟨F,cap,rfl,U,b,off,λI=>⟨(J I).1,V.dom _ (J I).2⟩,λi j hi O=>⟨_,hc i j hi O,ho i j hi O,hr i j hi O⟩⟩
  .cases H
 .rename_i n off len;split at H
  .rename_i Y Z z J;split at H
   .rename_i U;subst U;obtain rfl:=Ay H;obtain⟨hd,F,cap,rfl,hf,M,ha,_⟩:=iT hx _ _ _ J;have G:((Z.drop off).take len).length=len:=by simp;omega
    have he:∀i,i<len->((Z.drop off).take len).getD i []=Z.getD (off+i) []:=by
     intro i hi;simp[List.getD,hi]
    obtain⟨h0,h1⟩:=V.blk n _ J;refine⟨F,cap,by rw[G],λi hi=>?_,?_⟩
    .grind
    .rcases h1 with⟨h1,h2⟩|⟨x,cs,T,fr,h1,h2,h3,h4,_,h5,h6,h7⟩
     .subst h2;simp only[Ai] at hd;exact⟨0,0,λI=>absurd (List.length_eq_zero_iff.1 (by rw[G];omega)) I,λi j hi=>by rw[G] at hi;omega⟩
     .refine⟨x,off*Y,λI=>?_,λi j hi O=>?_⟩
      .grind [HOK,RV,qQ]
      .rw[G] at hi;have:=h7 (off+i) j (by omega) O
       have hg:(off+i)*Y+j<cs.size:=by
        have:(off+i+1)*Y<=Z.length*Y:=Bn _ (by omega);rw[Ch] at this;omega
       all_goals grind [cell_of_row]
   .cases H
  .cases H
 .obtain rfl:=Ay H;obtain rfl:=dD hx;exact⟨none,0,rfl,by simp,0,0,by simp,by simp⟩
 .cases H
def rT (k:Nat) (l:List (List AV)) (m:Nat):AV:=(l.getD (m/k) []).getD (m%k) .junk
theorem aCr {k n m:Nat} (h:m<n*k):m/k<n∧m%k<k∧m/k*k+m%k=m:=by
 have F:0<k:=by
  grind
 refine⟨(Nat.div_lt_iff_lt_mul F).2 h,Nat.mod_lt _ F,?_⟩
 all_goals grind [Nat.div_add_mod]
structure Reads (S:Nat->Prop) (w:World) (base:Option Addr) (k:Nat) (l:List (List AV)) (f:Nat->Value):Prop where
 rows:∀i,i<l.length->(l.getD i []).length=k
 cell:∀w':World,w'.heap=w.heap->∀m,m<l.length*k->∃b off,base=some ⟨b,off,none⟩∧w'.cell? ⟨b,off+m,none⟩=some (f m)
 one:∀m,m<l.length*k->(f m).oneCell'=true
 rc:∀m,m<l.length*k->RC S w (rT k l m) (f m)
theorem aDe {x:AV}{v:Value} (I:HOK S w ρ κ h) (hx:RV S w ρ κ h x v) {k:Nat}{l:List (List AV)} (V:qQ k h x=some l) :
  ∃F cap f,v=.slice F l.length cap∧Reads S w F k l f:=by
 obtain⟨F,cap,rfl,G,b,off,hb,U⟩:=aIe I hx V;refine⟨F,cap,λm=>(w.cell? ⟨b,off+m,none⟩).getD undef,rfl,G,λw' hw m H=>?_,λm H=>?_,λm H=>?_⟩
 all_goals
  obtain⟨M,h2,O⟩:=aCr H;obtain⟨u,J,Y,Z⟩:=U _ _ M h2;rw[O] at J
 .grind [World.cell?]
 .simp only[J,Cc];exact Y
 .simp only[J,Cc];exact Z
theorem Reads.first {F:Option Addr}{k:Nat}{l:List (List AV)}{f:Nat->Value} (G:Reads S w F k l f) (cap:Nat) {w':World} (H:w'.heap=w.heap) :
  (Builtin.firstCells k l.length (.slice F l.length cap)).run P w'=.ok ((List.range (l.length*k)).map f).toArray w':=by
 cases F with
 | none =>
  have:l.length*k=0:=by
   rcases Nat.eq_zero_or_pos (l.length*k) with h|h
   .exact h
   .obtain⟨_,_,h,_⟩:=G.cell w rfl 0 h;cases h
  simp[Builtin.firstCells,this]
 | some b =>
  grind [Builtin.firstCells,run_loadCells,addr_add,Reads]
theorem yL {k:Nat}{l F:List (List AV)}{m:Nat} (G:m<(l++F).length*k) :
  rT k (l++F) m=if m<l.length*k then rT k l m else rT k F (m-l.length*k):=by
 grind [rT,List.getElem?_append_left,Nat.le_div_iff_mul_le,Nat.mul_comm,Nat.sub_mul_div,Nat.sub_mul_mod]
theorem aBz {k:Nat}{l:List (List AV)}{cs:Array Value} (G:∀m,m<l.length*k->(cs.getD m undef).oneCell'=true∧RC S w (rT k l m) (cs.getD m undef)) :
  ∀i j,i<l.length->j<k->(cs.getD (i*k+j) undef).oneCell'=true∧RC S w ((l.getD i []).getD j .junk) (cs.getD (i*k+j) undef):=by
 intro i j hi H
 have F:i*k+j<l.length*k:=by
  have:(i+1)*k<=l.length*k:=Bn _ hi;rw[Ch] at this;omega
 all_goals grind [rT,Nat.mul_comm,Nat.mul_add_div,Nat.div_eq_of_lt,Nat.mul_add_mod,Nat.mod_eq_of_lt]
def aCv (k:Nat) (h:Name->Option Blk):AV->Option (Option Name×List (List AV))
 |.v (.slice none 0 0)=>some (none,[])
 | .loc n off len=>match h n with
  |some (.arr k' l z)=>if k'=k∧off=0∧len=l.length∧z=false then some (some n,l) else none
  |_=>none
 |_=>none
def aCl:Option Name->FSt->FSt
 |some n,σ=>rM n σ
 |none,σ=>σ
def wrA (k bytes:Nat) (σ:FSt) (d:Name) (A X:Operand) (K:FSt->AV->Prop):Prop:=
 match aCv k σ.h (evO σ.s A),qQ k σ.h (evO σ.s X) with
 | some (on,l),some l'=>((l.length+l'.length)*bytes<=2 ^ 47∧l.length+l'.length<2 ^ 62)∧
   K ⟨(aCl on σ).s,hput (aCl on σ).h d (some (.arr k (l++l') false))⟩ (.loc d 0 (l.length+l'.length))
 |_,_=>False
theorem aJa (M:OK C σ a w S ρ κ) {t t2 e e2:TypeId}{ty:TypeId}{i:TypeInfo}{zv:Value} (hu:P.underlying t=some (.slice e)) (qj:P.underlying t2=some (.slice e2)) (hi:P.info? e=some i) (hz:i.zero=some zv) (q4:zv.cells.size=i.size) {A X:Operand}{d:Name}{K:FSt->AV->Prop}
  (hf:∀on l,aCv i.size σ.h (evO σ.s A)=some (on,l)->gY d (aCl on σ)) (hv:wrA i.size i.bytes σ d A X K) :
  ∃σ' x v w' ρ' κ',K σ' x∧(Builtin.append_ #[t,t2] ty #[a.eval A,a.eval X]).run P w=.ok v w'∧OK C σ' a w' S ρ' κ'∧RV S w' ρ' κ' σ'.h x v:=by
 have hA:=M.ev A;have hX:=M.ev X;generalize a.eval A=va at hA⊢;generalize a.eval X=vx at hX⊢;simp only[wrA] at hv;split at hv
 .rename_i on l F H q1;obtain⟨⟨q8,ja⟩,hK⟩:=hv;have qb:=hf _ _ H;obtain⟨xb,xc,f',rfl,Y⟩:=aDe M.hok hX q1
  have hs:∃G cap f,va=.slice G l.length cap∧Reads S w G i.size l f∧cap<2 ^ 63∧
    ((on=none∧G=none∧cap=0∧l=[])∨∃n z,on=some n∧σ.h n=some (.arr i.size l false)∧z=()∧((ρ n=none∧G=none∧cap=0)∨∃x,ρ n=some x∧G=some ⟨x,0,none⟩∧cap*i.size<=κ n)):=by
   unfold aCv at H;split at H
   .rename_i qa;simp only[Ab,AL] at H;obtain⟨rfl,rfl⟩:=H;rw[qa] at hA;obtain rfl:=dD hA;exact⟨none,0,λ_=>undef,rfl,⟨by simp,by simp,by simp,by simp⟩,by omega,.inl ⟨rfl,rfl,rfl,rfl⟩⟩
   .rename_i n off len qa;split at H
    .rename_i k' l2 z hb;split at H
     .rename_i h9;obtain⟨rfl,rfl,rfl,rfl⟩:=h9;simp only[Ab,AL] at H;obtain⟨rfl,rfl⟩:=H;rw[qa] at hA;have qr:qQ i.size σ.h (.loc n 0 l2.length)=some l2:=by simp[qQ,hb]
      obtain⟨G,cap,f,qu,hR⟩:=aDe M.hok hA qr;obtain⟨_,qv,q7,ho,_,hd,_,qc⟩:=iT hA _ _ _ hb;rw[qu] at ho;simp only[Value.slice.injEq,Ck] at ho;obtain⟨rfl,rfl⟩:=ho;exact⟨G,cap,f,qu,hR,hd,.inr ⟨n,(),rfl,hb,rfl,qc rfl rfl⟩⟩
     .cases H
    .cases H
   .cases H
  obtain⟨G,cap,f,rfl,hR,hd,h8⟩:=hs
  have hk:OK C (aCl on σ) a w S ρ κ:=by
   cases on with
   |none=>exact M
   |some n=>exact M.kill n
  have hl:∀j,j<(l++F).length->((l++F).getD j []).length=i.size:=by
   intro j hj;simp only[AX] at hj;by_cases O:j<l.length
   .simpa[List.getD,BC O] using hR.rows j O
   .simpa[List.getD,Bi (Nat.le_of_not_lt O)] using Y.rows (j-l.length) (by omega)
  have J:=λw' hw=>Y.first (P:=P) xc (w':=w') hw;have hp:=λw' hw=>hR.first (P:=P) cap (w':=w') hw;have I:(l++F).length*i.size=l.length*i.size+F.length*i.size:=by rw[AX,CY]
  have qh:∀v∈(List.range (F.length*i.size)).map f',v.oneCell'=true:=by
   intro v hv;obtain⟨m,Z,rfl⟩:=Bq.1 hv;exact Y.one m (by simpa using Z)
  by_cases U:l.length+F.length<=cap
  .-- there is room: the row is written where it lies, or nothing is written
   have hr:G=none->cap=0->l=[]->∃σ' x v w' ρ' κ',K σ' x∧(Builtin.append_ #[t,t2] ty #[.slice G l.length cap,.slice xb F.length xc]).run P w=.ok v w'∧OK C σ' a w' S ρ' κ'∧RV S w' ρ' κ' σ'.h x v:=by
    rintro rfl rfl rfl;obtain rfl:F=[]:=by simpa using U
    have hc:=J w rfl;simp only[Ai,Nat.zero_mul,List.range_zero,BI] at hc;refine⟨_,_,.slice none 0 0,w,_,_,hK,?_,hk.add2 qb (b:=.arr i.size [] false) (ox:=none) (kn:=0) (Au _) (λ_ _ _=>rfl) ⟨rfl,rfl⟩ (by simp) (fun ρ' κ' h' e1 e2 _=>⟨by simp,.inl ⟨e1,rfl⟩⟩),?_⟩
    .simp[Builtin.append_,run_underlying hu,run_underlying qj,sizeOf,typeInfo,hi,Builtin.lenOf,hc]
    .refine .loc _ _ _ _ λk' l2 z hb=>?_;simp only[hput,Bj,Ab,Blk.arr.injEq] at hb;obtain⟨rfl,rfl,rfl⟩:=hb;exact⟨by simp,none,0,rfl,by omega,by omega,λh=>absurd h (by simp),λ_ _=>.inl ⟨by simp,rfl,rfl⟩⟩
   rcases h8 with⟨rfl,ht,h0,qe⟩|⟨n,_,rfl,hb,_,⟨hρ,ht,h0⟩|⟨x,hρ,rfl,qm⟩⟩
   .exact hr ht h0 qe
   .obtain⟨_,⟨_,qe⟩|⟨x,_,_,_,hx,_⟩⟩:=M.hok.blk n _ hb
    .exact hr ht h0 qe
    .rw[hρ] at hx;cases hx
   .-- written in place
    obtain⟨q9,⟨O,h2⟩|⟨y,V,T,fr,O,h2,h3,h4,_,h5,h6,h7⟩⟩:=M.hok.blk n _ hb
    .rw[hρ] at O;cases O
    obtain rfl:=Ay (hρ.symm.trans O)
    have qo:l.length*i.size+F.length*i.size<=V.size:=by
     rw[h5,←CY];exact Bl (Bn _ U) qm
    have qs:=oH (P:=P) (o:=l.length*i.size) ((List.range (F.length*i.size)).map f') 0 V w h2 h3 (by simp;omega) qh;simp only[Cu] at qs;have hc:=J w rfl;have hS:¬S x:=h4 rfl;have qi:(xX V (l.length*i.size) ((List.range (F.length*i.size)).map f')).size=V.size:=iV _ _ _;have ha:=λm=>wK ((List.range (F.length*i.size)).map f') V (l.length*i.size) m (by simp;omega);simp only[Bh,List.length_range] at ha
    refine ⟨_,_,.slice (some ⟨x,0,none⟩) (l.length+F.length) cap,gX w x (.cells (xX V (l.length*i.size) ((List.range (F.length*i.size)).map f')) T fr),_,_,hK,?_,
      hk.add2 qb (b:=.arr i.size (l++F) false) (ox:=some x) (kn:=κ n) (by rw[uH];exact Au _) (λy _ q0=>nI _ _ (λe=>q0 (e ▸ rfl))) ⟨rfl,rfl⟩ ?_ ?_,?_⟩
    .simp[Builtin.append_,run_underlying hu,run_underlying qj,sizeOf,typeInfo,hi,Builtin.lenOf,hc,U,addr_add,qs]
    .intro x' q3;obtain rfl:=Ay q3;refine⟨λm Z he=>?_,hS,M.mine n x (by simp[hb]) hρ⟩;simp only[aCl,rM] at Z;split at Z
     .cases Z
     .rename_i qz;exact qz (M.hok.inj m n x (by simpa using Z) (by simp[hb]) he hρ)
    .intro ρ' κ' h' e1 e2 _;refine⟨hl,.inr ⟨x,_,T,fr,e1,u7 _ h2,by rw[qi];exact h3,λ_=>hS,by simp,by rw[qi,h5,e2],by rw[I,qi];exact qo,aBz λm Z=>?_⟩⟩;have qk:∀y,S y->(gX w x (.cells (xX V (l.length*i.size) ((List.range (F.length*i.size)).map f')) T fr)).heap[y]? = w.heap[y]?:=λy hy=>nI _ _ (λe=>hS (e ▸ hy));rw[yL Z,ha m];rw[I] at Z;by_cases qg:m<l.length*i.size
     .rw[AP qg,AC (by omega)];obtain⟨g1,g2,g3⟩:=aCr qg;have:=h7 _ _ g1 g2;rw[g3] at this;exact⟨this.1,this.2.mono (λ_ h=>h) qk⟩
     .rw[AC qg,AP (by omega)];have qf:m-l.length*i.size<F.length*i.size:=by omega
      have e:((List.range (F.length*i.size)).map f').getD (m-l.length*i.size) undef=f' (m-l.length*i.size):=by simp[List.getD,qf]
      rw[e];exact⟨Y.one _ qf,(Y.rc _ qf).mono (λ_ h=>h) qk⟩
    .refine .loc _ _ _ _ λk' l2 z ql=>?_;simp only[hput,Bj,Ab,Blk.arr.injEq] at ql;obtain⟨rfl,rfl,rfl⟩:=ql;refine⟨by simp,_,_,rfl,U,hd,λ_=>⟨x,by simp,by simp⟩,λ_ _=>.inr ⟨x,by simp,rfl,by simpa using qm⟩⟩
  .-- it grows
   have qd:cap<l.length+F.length:=by omega
   have hc:=J w.drew rfl;have qn:=hp w.drew rfl;have qx:=growslice_fits (bytes:=i.bytes) qd (by omega);have q6:¬(9223372036854775807<(l.length:Int)+(F.length:Int)):=by omega
   have q5:¬(281474976710656<Builtin.nextslicecap (l.length+F.length) cap*i.bytes):=by omega
   have hn:¬(l.length+F.length<=cap):=by omega
   have qp:=grownCap_ge w (l.length+F.length) cap e;have qy:=grownCap_le_maxLen w (l.length+F.length) cap e (by unfold maxLen;omega);unfold maxLen at qy;have qt:=size_zeroCells zv.cells (grownCap w (l.length+F.length) cap e-(l.length+F.length));generalize hg:((List.range (l.length*i.size)).map f).toArray++((List.range (F.length*i.size)).map f').toArray++Builtin.zeroCells zv.cells (grownCap w (l.length+F.length) cap e-(l.length+F.length))=cs
   have hq:cs.size=grownCap w (l.length+F.length) cap e*i.size:=by
    rw[←hg];simp only[Array.size_append,List.size_toArray,Bh,List.length_range,qt,q4];rw[←CY,←CY];congr 1;omega
   have ha:∀m,m<l.length*i.size+F.length*i.size->cs.getD m undef=if m<l.length*i.size then f m else f' (m-l.length*i.size):=by
    intro m Z;rw[←hg];by_cases O:m<l.length*i.size
    .rw[AP O];simp[Cz,O,show m<l.length*i.size+F.length*i.size by omega]
    .rw[AC O];simp[Cz,Z,List.getElem_append,O]
   have qw:Ext w (w.drew.alloc (.cells cs e)):=(Ext.of_heap (w':=w.drew) rfl rfl rfl).trans (Ext.push w.drew _)
   obtain ⟨ρ',κ',qq,q2⟩:=hk.addArr qw qb (k:=i.size) (l:=l++F) (cs:=cs) (T:=e) (fr:=(0,0)) (x:=w.heap.size) (cap:=grownCap w (l.length+F.length) cap e) (Au _) (aAn w.drew _) (λj _ hj=>by omega)
    hl (by rw[hq,AX];exact Bn _ qp) (aBz λm Z=>by
      rw[yL Z];rw[I] at Z;rw[ha m Z];by_cases O:m<l.length*i.size
      . rw[AP O,AP O];exact⟨hR.one _ O,hR.rc _ O⟩
      . rw[AC O,AC O];exact⟨Y.one _ (by omega),Y.rc _ (by omega)⟩) ⟨by rw[AX];exact qp,by omega,by rw[hq];exact Au _⟩
   refine⟨_,_,_,_,ρ',κ',hK,?_,qq,by rw[←AX];exact q2⟩;simp[Builtin.append_,run_underlying hu,run_underlying qj,sizeOf,typeInfo,zeroValue,hi,hz,Builtin.lenOf,hn,q6,q5,Question.forced,hc,qn,newRow];rw[←hg];exact⟨rfl,by rw[Array.append_assoc];rfl⟩
 .exact hv.elim
end
end Go.Vs
