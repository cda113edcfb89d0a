/- Regions whose order is open. -/
import Derived.Test.YthbnjmgjhonfbaaGreatVsS
set_option linter.all false
set_option maxHeartbeats 8000000
namespace Go.Vs
section
variable [Envs]
variable {N:Name→Prop}{h h':Name→Option Blk}{ev ev':Operand→AV}
theorem aHn (ha:Agr N h h') {k:Nat}{x:AV} (ho:Off N x):p8 k h x=p8 k h' x:=by
 cases x<;>try rfl
 case v x=>unfold p8;split<;>first|rfl|simp_all
 case loc n off len =>
  simp only[p8];cases hx:h n with
  |none=>rw[ha.none ho.loc hx]
  | some b =>
   obtain⟨b',hb',e⟩:=ha.some ho.loc hx;rw[hb'];cases b with
   |var c z=>obtain⟨z',rfl⟩:=aAy e;rfl
   |arr k l z=>obtain⟨z',rfl⟩:=yH e;rfl
theorem aLP (ha:Agr N h h') {op:AOp}{K:AV→Prop} (he:∀o,o∈aM op→ev o=ev' o∧Off N (ev o)) (hk:rd ev h K op):rd ev' h' K op:=by
 cases op
 case mv x=>simpa only[rd,(he x (by simp[aM])).1] using hk
 case pick c a b =>
  simp only[rd] at hk⊢;rw[←(he c (by simp[aM])).1,←(he a (by simp[aM])).1,←(he b (by simp[aM])).1];exact hk
 case load g k a =>
  have⟨e1,e2⟩:=he a (by simp[aM]);simp only[rd,←e1] at hk⊢;split at hk
  ·exact hk
  ·rename_i n e c hx;rw[hx] at e2;split at hk
   ·rename_i b hb;obtain⟨b',hb',hf⟩:=ha.some e2.ptr hb;simp only[hb',aKY hf];exact hk
   ·exact hk.elim
  ·exact hk.elim
 case fieldAddr off x =>
  have⟨e1,e2⟩:=he x (by simp[aM]);simp only[rd,←e1] at hk⊢;split at hk
  ·rename_i n e c hx;rw[hx] at e2;split at hk
   ·rename_i b hb;obtain⟨b',hb',hf⟩:=ha.some e2.ptr hb;simp only[hb'];exact hk
   ·exact hk.elim
  ·exact hk
  ·exact hk.elim
 case loadV g k a =>
  have⟨e1,e2⟩:=he a (by simp[aM]);simp only[rd,←e1] at hk⊢;split at hk
  ·rename_i n e c hx;rw[hx] at e2;split at hk
   ·rename_i cs z hb;obtain⟨b',hb',hf⟩:=ha.some e2.ptr hb;obtain⟨z',rfl⟩:=aAy hf;simp only[hb'];have er:(Blk.var cs z').row e=(Blk.var cs z).row e:=by cases e<;>rfl
    rw[er];exact hk
   ·exact hk.elim
  ·exact hk.elim
 case fieldV off x =>
  have⟨e1,e2⟩:=he x (by simp[aM]);simp only[rd,←e1] at hk⊢;split at hk
  ·rename_i n e c hx;rw[hx] at e2;split at hk
   ·rename_i cs z hb;obtain⟨b',hb',hf⟩:=ha.some e2.ptr hb;obtain⟨z',rfl⟩:=aAy hf;simp only[hb'];exact hk
   ·exact hk.elim
  ·exact hk.elim
 case field g off k x=>simpa only[rd,(he x (by simp[aM])).1] using hk
 case idxSl k x i =>
  have⟨e1,e2⟩:=he x (by simp[aM]);have⟨e3,_⟩:=he i (by simp[aM]);simp only[rd,←e1,←e3] at hk⊢;split at hk
  ·exact hk
  ·rename_i n off len kk i' hx hi;rw[hx] at e2;split at hk
   ·rename_i k' l z hb;obtain⟨b',hb',hf⟩:=ha.some e2.loc hb;obtain⟨z',rfl⟩:=yH hf;simp only[hb'];exact hk
   ·exact hk.elim
  ·exact hk.elim
 case idxArr n k x i =>
  have⟨e1,e2⟩:=he x (by simp[aM]);have⟨e3,_⟩:=he i (by simp[aM]);simp only[rd,←e1,←e3] at hk⊢;split at hk
  ·exact hk
  ·rename_i m e c kk i' hx hi;rw[hx] at e2;split at hk
   ·rename_i b hb;obtain⟨b',hb',hf⟩:=ha.some e2.ptr hb;simp only[hb'];exact hk
   ·exact hk.elim
  ·exact hk.elim
 case idxAgg g n k x i=>simpa only[rd,(he x (by simp[aM])).1,(he i (by simp[aM])).1] using hk
 case idxStr x i=>simpa only[rd,(he x (by simp[aM])).1,(he i (by simp[aM])).1] using hk
 case bin o x y=>simpa only[rd,(he x (by simp[aM])).1,(he y (by simp[aM])).1] using hk
 case binS o x y=>simpa only[rd,(he x (by simp[aM])).1,(he y (by simp[aM])).1] using hk
 case binB o x y=>simpa only[rd,(he x (by simp[aM])).1,(he y (by simp[aM])).1] using hk
 case un o x=>simpa only[rd,(he x (by simp[aM])).1] using hk
 case conv k x=>simpa only[rd,(he x (by simp[aM])).1] using hk
 case len x =>
  have⟨e1,e2⟩:=he x (by simp[aM]);simp only[rd,←e1] at hk⊢;split at hk
  ·exact hk
  ·rename_i n off len hx;rw[hx] at e2;split at hk
   ·rename_i k' l z hb;obtain⟨b',hb',hf⟩:=ha.some e2.loc hb;obtain⟨z',rfl⟩:=yH hf;simp only[hb'];exact hk
   ·exact hk.elim
  ·exact hk
  ·exact hk.elim
 case lenS x=>simpa only[rd,(he x (by simp[aM])).1] using hk
 case lenC n=>exact hk
 case slc k x lo hi =>
  have⟨e1,e2⟩:=he x (by simp[aM])
  have e3:lo.map ev=lo.map ev':=by
   cases lo with
   |none=>rfl
   |some o=>simp[(he o (by simp[aM])).1]
  have e4:hi.map ev=hi.map ev':=by
   cases hi with
   |none=>rfl
   |some o=>simp[(he o (by simp[aM])).1]
  simp only[rd,←e1,←e3,←e4] at hk⊢;split at hk
  ·exact hk
  ·rename_i n off len hx;rw[hx] at e2;split at hk
   ·rename_i k' l z hb;obtain⟨b',hb',hf⟩:=ha.some e2.loc hb;obtain⟨z',rfl⟩:=yH hf;simp only[hb'];exact hk
   ·exact hk.elim
  ·exact hk.elim
 case sstr x lo hi =>
  have⟨e1,e2⟩:=he x (by simp[aM])
  have e3:lo.map ev=lo.map ev':=by
   cases lo with
   |none=>rfl
   |some o=>simp[(he o (by simp[aM])).1]
  have e4:hi.map ev=hi.map ev':=by
   cases hi with
   |none=>rfl
   |some o=>simp[(he o (by simp[aM])).1]
  simpa only[rd,←e1,←e3,←e4] using hk
 case nilc x =>
  have⟨e1,e2⟩:=he x (by simp[aM]);simp only[rd,←e1] at hk⊢;split at hk
  ·exact hk
  ·rename_i n e c hx;rw[hx] at e2;split at hk
   ·rename_i b hb;obtain⟨b',hb',hf⟩:=ha.some e2.ptr hb;simp only[hb'];exact hk
   ·exact hk.elim
  ·exact hk
  ·exact hk.elim
 case extract x i=>simpa only[rd,(he x (by simp[aM])).1] using hk
 case build z ps =>
  simp only[rd] at hk⊢;exact zA ha (fun p hp=>he _ (by simp only[aM,List.mem_map];exact⟨p,hp,rfl⟩)) hk
 case mkfn f cs =>
  simp only[rd] at hk⊢;rw[←List.map_congr_left (f:=ev) (g:=ev') fun o ho=>(he o (by simpa[aM] using ho)).1];exact hk
 case mm mx x y=>simpa only[rd,(he x (by simp[aM])).1,(he y (by simp[aM])).1] using hk
 case b2s x =>
  have⟨e1,e2⟩:=he x (by simp[aM]);simp only[rd,←e1,←aHn ha e2] at hk⊢;exact hk
 case eqA neg ks x y=>simpa only[rd,(he x (by simp[aM])).1,(he y (by simp[aM])).1] using hk
 case idxB x y=>simpa only[rd,(he x (by simp[aM])).1,(he y (by simp[aM])).1] using hk
 all_goals exact hk.elim
theorem aGd {op:BinOp}{k k':IntKind}{a b:Int}{K:AV→Prop} (hk:aFm op k k' a b K):∃x:Value,K (.v x)∧∀K':AV→Prop,K' (.v x)→aFm op k k' a b K':=by
 cases op<;>simp only[aFm] at hk⊢<;> exact⟨_,hk.2,fun _ hx=>⟨hk.1,hx⟩⟩
theorem aEf {op:BinOp}{a b:ByteArray}{K:AV→Prop} (hk:aA4 op a b K):∃x:Value,K (.v x)∧∀K':AV→Prop,K' (.v x)→aA4 op a b K':=by
 cases op<;>simp only[aA4] at hk⊢<;> first
  |exact hk.elim
  |exact⟨_,hk.2,fun _ hx=>⟨hk.1,hx⟩⟩
  |exact⟨_,hk,fun _ hx=>hx⟩
theorem aCT {op:BinOp}{a b:Bool}{K:AV→Prop} (hk:yL op a b K):∃x:Value,K (.v x)∧∀K':AV→Prop,K' (.v x)→yL op a b K':=by
 cases op<;>simp only[yL] at hk⊢<;> first
  |exact hk.elim
  |exact⟨_,hk,fun _ hx=>hx⟩
inductive Nm:(Name→Prop)→AV→Prop
 |junk (p:Name→Prop):Nm p .junk
 |v (p:Name→Prop) (x:Value):Nm p (.v x)
 |sl (p:Name→Prop) (k:Nat) (l:List (List AV)) (hl:∀r,r∈l→∀x,x∈r→Nm (fun _=>False) x):Nm p (.sl k l)
 |ro (p:Name→Prop) (c:List AV) (hc:∀x,x∈c→Nm (fun _=>False) x):Nm p (.ro c)
 |loc (p:Name→Prop) (n:Name) (off len:Nat) (hn:p n):Nm p (.loc n off len)
 |ptr (p:Name→Prop) (n:Name) (e c:Nat) (hn:p n):Nm p (.ptr n e c)
 |fn (p:Name→Prop) (f:FuncId) (c:List AV) (hc:∀x,x∈c→Nm p x):Nm p (.fn f c)
 |agg (p:Name→Prop) (c:List AV) (hc:∀x,x∈c→Nm p x):Nm p (.agg c)
 |tup (p:Name→Prop) (c:List AV) (hc:∀x,x∈c→Nm p x):Nm p (.tup c)
def NmL (p:Name→Prop) (c:List AV):Prop:=∀x,x∈c→Nm p x
def NmB (p:Name→Prop):Blk→Prop
 |.var c _=>NmL p c
 |.arr _ l _=>∀r,r∈l→NmL (fun _=>False) r
theorem Nm.mono {p q:Name→Prop}{x:AV} (hx:Nm p x) (hpq:∀n,p n→q n):Nm q x:=by
 induction hx with
 |junk=>exact .junk _
 |v=>exact .v _ _
 |sl _ k l hl _=>exact .sl _ k l hl
 |ro _ c hc _=>exact .ro _ c hc
 |loc _ n off len hn=>exact .loc _ n off len (hpq n hn)
 |ptr _ n e c hn=>exact .ptr _ n e c (hpq n hn)
 |fn _ f c hc ih=>exact .fn _ f c fun x hx=>ih x hx hpq
 |agg _ c hc ih=>exact .agg _ c fun x hx=>ih x hx hpq
 |tup _ c hc ih=>exact .tup _ c fun x hx=>ih x hx hpq
theorem Nm.off {p:Name→Prop}{x:AV} (hx:Nm p x) (hp:∀n,p n→¬N n):Off N x:=by
 induction hx with
 |junk=>exact Off.junk
 |v=>exact Off.v _
 |sl=>exact Off.sl _ _
 |ro=>exact Off.ro _
 |loc _ n off len hn=>exact Off.mk_loc (hp n hn)
 |ptr _ n e c hn=>exact Off.mk_ptr (hp n hn)
 |fn _ f c hc ih=>exact Off.mk_fn (dU.of_mem fun x hx=>ih x hx hp)
 |agg _ c hc ih=>exact Off.mk_agg (dU.of_mem fun x hx=>ih x hx hp)
 |tup _ c hc ih=>exact Off.mk_tup (dU.of_mem fun x hx=>ih x hx hp)
theorem Nm.of_off {p:Name→Prop}{x:AV} (hx:Nm p x) (ho:Off N x):Nm (fun n=>¬N n) x:=by
 induction hx with
 |junk=>exact .junk _
 |v=>exact .v _ _
 |sl _ k l hl _=>exact .sl _ k l hl
 |ro _ c hc _=>exact .ro _ c hc
 |loc _ n off len hn=>exact .loc _ n off len ho.loc
 |ptr _ n e c hn=>exact .ptr _ n e c ho.ptr
 |fn _ f c hc ih=>exact .fn _ f c fun x hx=>ih x hx (ho.fn.mem x hx)
 |agg _ c hc ih=>exact .agg _ c fun x hx=>ih x hx (ho.agg.mem x hx)
 |tup _ c hc ih=>exact .tup _ c fun x hx=>ih x hx (ho.tup.mem x hx)
theorem Nm.getD {p:Name→Prop}{c:List AV} (hc:NmL p c) (j:Nat):Nm p (c.getD j .junk):=by
 rcases Nat.lt_or_ge j c.length with h|h
 ·have:c.getD j .junk=c[j]:=by simp[List.getD,h]
  rw[this];exact hc _ (List.getElem_mem h)
 ·have:c.getD j .junk=.junk:=by simp[List.getD,h]
  rw[this];exact .junk _
theorem NmL.drop {p:Name→Prop}{c:List AV} (hc:NmL p c) (j:Nat):NmL p (c.drop j):=fun x hx=>hc x (List.mem_of_mem_drop hx)
theorem NmL.take {p:Name→Prop}{c:List AV} (hc:NmL p c) (j:Nat):NmL p (c.take j):=fun x hx=>hc x (List.mem_of_mem_take hx)
theorem NmL.mk {p:Name→Prop}{g:Bool}{c:List AV} (hc:NmL p c):Nm p (AV.mk g c):=by
 cases g
 ·cases c with
  |nil=>exact .junk _
  |cons x r=>exact hc x (by simp)
 ·exact .agg _ c hc
theorem NmL.closed {p:Name→Prop}{c:List AV} (hc:NmL (fun _=>False) c):NmL p c:=fun x hx=>(hc x hx).mono fun _ h=>h.elim
theorem Nm.pU {p:Name→Prop}{c:List AV} (h:Nm p (.ro c)):NmL (fun _=>False) c:=by cases h;assumption
theorem Nm.sW {p:Name→Prop}{k:Nat}{l:List (List AV)} (h:Nm p (.sl k l)):∀r,r∈l→NmL (fun _=>False) r:=by cases h;assumption
theorem Nm.eX {p:Name→Prop}{n:Name}{e c:Nat} (h:Nm p (.ptr n e c)):p n:=by cases h;assumption
theorem Nm.kW {p:Name→Prop}{n:Name}{e c:Nat} (h:Nm p (.loc n e c)):p n:=by cases h;assumption
theorem Nm.mX {p:Name→Prop}{c:List AV} (h:Nm p (.agg c)):NmL p c:=by cases h;assumption
theorem Nm.aAp {p:Name→Prop}{c:List AV} (h:Nm p (.tup c)):NmL p c:=by cases h;assumption
theorem NmB.row {p:Name→Prop}{b:Blk} (hb:NmB p b) (e:Nat):NmL p (b.row e):=by
 cases b with
 | var c z=>cases e with
  |zero=>exact hb
  |succ e=>intro x hx;simp[Blk.row] at hx
 | arr k l z =>
  intro x hx;simp only[Blk.row] at hx;rcases Nat.lt_or_ge e l.length with h|h
  ·have:l.getD e []=l[e]:=by simp[List.getD,h]
   rw[this] at hx;exact(hb _ (List.getElem_mem h) x hx).mono fun _ h=>h.elim
  ·have:l.getD e []=[]:=by simp[List.getD,h]
   rw[this] at hx;simp at hx
theorem aHZ {p:Name→Prop}{x:AV} (ho:Nm p x) {c:List AV} (hc:jZ h x=some c):NmL p c:=by
 cases x
 case agg c' =>
  simp only[jZ] at hc;split at hc
  ·obtain rfl:=Option.some.inj hc;exact ho.mX
  ·cases hc
 all_goals
  simp only[jZ] at hc;split at hc
  ·obtain rfl:=Option.some.inj hc;intro y hy;rw[List.mem_singleton] at hy;rw[hy];exact ho
  ·cases hc
theorem aIX {p:Name→Prop}:∀{xs cs:List AV}{o:Nat},NmL p xs→NmL p cs→NmL p (lay cs o xs)
 | [],_,_,_,hc=>hc
 | x::r,cs,o,hx,hc=>by
  rw[lay];refine aIX (fun y hy=>hx y (by simp[hy])) fun y hy=>?_;rcases List.mem_or_eq_of_mem_set hy with h|rfl
  ·exact hc y h
  ·exact hx _ (by simp)
theorem aDc {p:Name→Prop}:∀{ps:List (Nat×Nat×Operand)}{cs:List AV}{c:List AV},(∀q,q∈ps→Nm p (ev q.2.2))→NmL p cs→layAll ev h cs ps (fun c'=>c'=c)→NmL p c
 | [],_,_,_,hc,hk=>by cases hk;exact hc
 | (o,n,x)::r,cs,K,he,hc,hk=>by
  simp only[layAll] at hk;split at hk
  ·rename_i c hcx;exact aDc (fun p hp=>he p (by simp[hp])) (aIX (aHZ (he (o,n,x) (by simp)) hcx) hc) hk.2
  ·exact hk.elim
theorem aAd {op:AOp}{K:AV→Prop} (hk:rd ev h K op):∃x,K x∧(∀K':AV→Prop,K' x→rd ev h K' op)∧
  ∀p:Name→Prop,(∀z ps,op=.build z ps→NmL p z)→(∀o,o∈aM op→Nm p (ev o))→(∀n b,p n→h n=some b→NmB p b)→Nm p x:=by
 cases op
 case mv x=>exact⟨_,hk,fun _ hx'=>hx',fun p _ ho _=>ho x (by simp[aM])⟩
 case pick c a b =>
  simp only[rd] at hk⊢;split at hk
  ·rename_i t ht;cases t
   ·exact⟨_,hk.get.2 rfl,fun _ hx'=>Br.mk (fun h=>(by cases h)) (fun _=>hx'),fun p _ ho _=>ho b (by simp[aM])⟩
   ·exact⟨_,hk.get.1 rfl,fun _ hx'=>Br.mk (fun _=>hx') (fun h=>(by cases h)),fun p _ ho _=>ho a (by simp[aM])⟩
  ·exact hk.elim
 case load g k a =>
  simp only[rd] at hk⊢;split at hk
  ·rename_i c hx
   exact ⟨_,hk.2,fun _ hx'=>⟨hk.1,hx'⟩,fun p _ ho _=>by
     have:=ho a (by simp[aM]);rw[hx] at this;exact NmL.mk (NmL.take (NmL.closed this.pU) _)⟩
  ·rename_i n e c hx;split at hk
   ·rename_i b hb
    exact ⟨_,hk.2,fun _ hx'=>⟨hk.1,hx'⟩,fun p _ ho hh=>by
      have:=ho a (by simp[aM]);rw[hx] at this;exact NmL.mk (NmL.take (NmL.drop ((hh n b this.eX hb).row e) _) _)⟩
   ·exact hk.elim
  ·exact hk.elim
 case fieldAddr off x =>
  simp only[rd] at hk⊢;split at hk
  ·rename_i n e c hx;split at hk
   ·exact ⟨_,hk,fun _ hx'=>hx',fun p _ ho _=>by
      have:=ho x (by simp[aM]);rw[hx] at this;exact .ptr _ _ _ _ this.eX⟩
   ·exact hk.elim
  ·rename_i c hx
   exact ⟨_,hk.2,fun _ hx'=>⟨hk.1,hx'⟩,fun p _ ho _=>by
     have:=ho x (by simp[aM]);rw[hx] at this;exact .ro _ _ (NmL.drop this.pU _)⟩
  ·exact hk.elim
 case loadV g k a =>
  simp only[rd] at hk⊢;split at hk
  ·rename_i n e c hx;split at hk
   ·rename_i cs z hb
    exact ⟨_,hk.2,fun _ hx'=>⟨hk.1,hx'⟩,fun p _ ho hh=>by
      have:=ho a (by simp[aM]);rw[hx] at this;exact NmL.mk (NmL.take (NmL.drop ((hh n _ this.eX hb).row e) _) _)⟩
   ·exact hk.elim
  ·exact hk.elim
 case fieldV off x =>
  simp only[rd] at hk⊢;split at hk
  ·rename_i n e c hx;split at hk
   ·exact ⟨_,hk,fun _ hx'=>hx',fun p _ ho _=>by
      have:=ho x (by simp[aM]);rw[hx] at this;exact .ptr _ _ _ _ this.eX⟩
   ·exact hk.elim
  ·exact hk.elim
 case field g off k x =>
  simp only[rd] at hk⊢;split at hk
  ·rename_i c hx
   exact ⟨_,hk.2,fun _ hx'=>⟨hk.1,hx'⟩,fun p _ ho _=>by
     have:=ho x (by simp[aM]);rw[hx] at this;exact NmL.mk (NmL.take (NmL.drop this.mX _) _)⟩
  ·exact hk.elim
 case idxSl k x i =>
  simp only[rd] at hk⊢;split at hk
  ·rename_i k' l kk i' hx hi
   exact ⟨_,hk.2,fun _ hx'=>⟨hk.1,hx'⟩,fun p _ ho _=>by
     have:=ho x (by simp[aM]);rw[hx] at this;refine .ro _ _ fun y hy=>?_;have hlt:i'.toNat<l.length:=by have:=hk.1;omega
     have e:l.getD i'.toNat []=l[i'.toNat]:=by simp[List.getD,hlt]
     rw[e] at hy;exact this.sW _ (List.getElem_mem hlt) y hy⟩
  ·rename_i n off len kk i' hx hi;split at hk
   ·exact ⟨_,hk.2,fun _ hx'=>⟨hk.1,hx'⟩,fun p _ ho _=>by
      have:=ho x (by simp[aM]);rw[hx] at this;exact .ptr _ _ _ _ this.kW⟩
   ·exact hk.elim
  ·exact hk.elim
 case idxArr n k x i =>
  simp only[rd] at hk⊢;split at hk
  ·rename_i c kk i' hx hi
   exact ⟨_,hk.2,fun _ hx'=>⟨hk.1,hx'⟩,fun p _ ho _=>by
     have:=ho x (by simp[aM]);rw[hx] at this;exact .ro _ _ (NmL.drop this.pU _)⟩
  ·rename_i m e c kk i' hx hi;split at hk
   ·exact ⟨_,hk.2,fun _ hx'=>⟨hk.1,hx'⟩,fun p _ ho _=>by
      have:=ho x (by simp[aM]);rw[hx] at this;exact .ptr _ _ _ _ this.eX⟩
   ·exact hk.elim
  ·exact hk.elim
 case idxAgg g n k x i =>
  simp only[rd] at hk⊢;split at hk
  ·rename_i c kk i' hx hi
   exact ⟨_,hk.2,fun _ hx'=>⟨hk.1,hx'⟩,fun p _ ho _=>by
     have:=ho x (by simp[aM]);rw[hx] at this;exact NmL.mk (NmL.take (NmL.drop this.mX _) _)⟩
  ·exact hk.elim
 case idxStr x i =>
  simp only[rd] at hk⊢;split at hk
  ·exact⟨_,hk.2,fun _ hx'=>⟨hk.1,hx'⟩,fun p _ _ _=>.v _ _⟩
  ·exact hk.elim
 case bin o x y =>
  simp only[rd] at hk⊢;split at hk
  ·obtain⟨v,h1,h2⟩:=aGd hk;exact⟨_,h1,h2,fun p _ _ _=>.v _ _⟩
  ·exact hk.elim
 case binS o x y =>
  simp only[rd] at hk⊢;split at hk
  ·obtain⟨v,h1,h2⟩:=aEf hk;exact⟨_,h1,h2,fun p _ _ _=>.v _ _⟩
  ·exact hk.elim
 case binB o x y =>
  simp only[rd] at hk⊢;split at hk
  ·obtain⟨v,h1,h2⟩:=aCT hk;exact⟨_,h1,h2,fun p _ _ _=>.v _ _⟩
  ·exact hk.elim
 case un o x =>
  simp only[rd] at hk⊢;split at hk
  ·exact⟨_,hk,fun _ hx'=>hx',fun p _ _ _=>.v _ _⟩
  ·exact⟨_,hk,fun _ hx'=>hx',fun p _ _ _=>.v _ _⟩
  ·exact⟨_,hk,fun _ hx'=>hx',fun p _ _ _=>.v _ _⟩
  ·exact hk.elim
 case conv k x =>
  simp only[rd] at hk⊢;split at hk
  ·exact⟨_,hk,fun _ hx'=>hx',fun p _ _ _=>.v _ _⟩
  ·exact hk.elim
 case len x =>
  simp only[rd] at hk⊢;split at hk
  ·exact⟨_,hk,fun _ hx'=>hx',fun p _ _ _=>.v _ _⟩
  ·split at hk
   ·exact⟨_,hk,fun _ hx'=>hx',fun p _ _ _=>.v _ _⟩
   ·exact hk.elim
  ·exact⟨_,hk,fun _ hx'=>hx',fun p _ _ _=>.v _ _⟩
  ·exact hk.elim
 case lenS x =>
  simp only[rd] at hk⊢;split at hk
  ·exact⟨_,hk,fun _ hx'=>hx',fun p _ _ _=>.v _ _⟩
  ·exact hk.elim
 case lenC n=>exact⟨_,hk,fun _ hx'=>hx',fun p _ _ _=>.v _ _⟩
 case slc k x lo hi =>
  simp only[rd] at hk⊢;split at hk
  ·rename_i k' l hx
   have fin:∀p:Name→Prop,(∀o,o∈aM (.slc k x lo hi)→Nm p (ev o))→∀a b,Nm p (.sl k ((l.take a).drop b)):=fun p ho a b=>by
    have:=ho x (by simp[aM]);rw[hx] at this;exact .sl _ _ _ fun r hr=>this.sW r (List.mem_of_mem_take (List.mem_of_mem_drop hr))
   split at hk
   ·exact⟨_,hk.2,fun _ hx'=>⟨hk.1,hx'⟩,fun p _ ho _=>fin p ho _ _⟩
   ·exact⟨_,hk.2,fun _ hx'=>⟨hk.1,hx'⟩,fun p _ ho _=>fin p ho _ _⟩
   ·exact⟨_,hk.2,fun _ hx'=>⟨hk.1,hx'⟩,fun p _ ho _=>fin p ho _ _⟩
   ·exact⟨_,hk.2,fun _ hx'=>⟨hk.1,hx'⟩,fun p _ ho _=>fin p ho _ _⟩
   ·exact hk.elim
  ·rename_i n off len hx
   have fin:∀p:Name→Prop,(∀o,o∈aM (.slc k x lo hi)→Nm p (ev o))→∀a b,Nm p (.loc n a b):=fun p ho a b=>by
    have:=ho x (by simp[aM]);rw[hx] at this;exact .loc _ _ _ _ this.kW
   split at hk
   ·split at hk
    ·exact⟨_,hk.2,fun _ hx'=>⟨hk.1,hx'⟩,fun p _ ho _=>fin p ho _ _⟩
    ·exact⟨_,hk.2,fun _ hx'=>⟨hk.1,hx'⟩,fun p _ ho _=>fin p ho _ _⟩
    ·exact⟨_,hk.2,fun _ hx'=>⟨hk.1,hx'⟩,fun p _ ho _=>fin p ho _ _⟩
    ·exact⟨_,hk.2,fun _ hx'=>⟨hk.1,hx'⟩,fun p _ ho _=>fin p ho _ _⟩
    ·exact hk.elim
   ·exact hk.elim
  ·exact hk.elim
 case sstr x lo hi =>
  simp only[rd] at hk⊢;split at hk
  ·split at hk
   ·exact⟨_,hk.2,fun _ hx'=>⟨hk.1,hx'⟩,fun p _ _ _=>.v _ _⟩
   ·exact⟨_,hk.2,fun _ hx'=>⟨hk.1,hx'⟩,fun p _ _ _=>.v _ _⟩
   ·exact⟨_,hk.2,fun _ hx'=>⟨hk.1,hx'⟩,fun p _ _ _=>.v _ _⟩
   ·exact⟨_,hk.2,fun _ hx'=>⟨hk.1,hx'⟩,fun p _ _ _=>.v _ _⟩
   ·exact hk.elim
  ·exact hk.elim
 case nilc x =>
  simp only[rd] at hk⊢;split at hk
  ·rename_i c hx;exact⟨_,hk,fun _ hx'=>hx',fun p _ ho _=>by have:=ho x (by simp[aM]);rwa [hx] at this⟩
  ·rename_i n e c hx;split at hk
   ·exact⟨_,hk,fun _ hx'=>hx',fun p _ ho _=>by have:=ho x (by simp[aM]);rwa [hx] at this⟩
   ·exact hk.elim
  ·rename_i f c hx;exact⟨_,hk,fun _ hx'=>hx',fun p _ ho _=>by have:=ho x (by simp[aM]);rwa [hx] at this⟩
  ·exact hk.elim
 case extract x i =>
  simp only[rd] at hk⊢;split at hk
  ·rename_i c hx
   exact ⟨_,hk.2,fun _ hx'=>⟨hk.1,hx'⟩,fun p _ ho _=>by
     have:=ho x (by simp[aM]);rw[hx] at this;exact Nm.getD this.aAp _⟩
  ·exact hk.elim
 case build z ps =>
  simp only[rd] at hk⊢;obtain⟨c,h1,h2⟩:=vH hk;refine⟨_,h1,?_,fun p hz ho _=>?_⟩
  ·exact fun K' hx'=>wW (fun c' hc'=>by rw[hc'];exact hx') h2
  ·exact .agg _ _ (aDc (fun q hq=>ho _ (by simp only[aM,List.mem_map];exact⟨q,hq,rfl⟩)) (hz z ps rfl) h2)
 case mkfn f cs =>
  simp only[rd] at hk⊢;refine⟨_,hk,fun _ hx'=>hx',fun p _ ho _=>.fn _ _ _ fun x hx=>?_⟩;obtain⟨o,ho',rfl⟩:=List.mem_map.1 hx;exact ho o (by simpa[aM] using ho')
 case mm mx x y =>
  simp only[rd] at hk⊢;split at hk
  ·exact⟨_,hk,fun _ hx'=>hx',fun p _ _ _=>.v _ _⟩
  ·exact hk.elim
 case b2s x =>
  simp only[rd] at hk⊢;split at hk
  ·split at hk
   ·exact⟨_,hk,fun _ hx'=>hx',fun p _ _ _=>.v _ _⟩
   ·exact hk.elim
  ·exact hk.elim
 case idxB x y =>
  simp only[rd] at hk⊢;split at hk
  ·exact⟨_,hk,fun _ hx'=>hx',fun p _ _ _=>.v _ _⟩
  ·exact hk.elim
 case eqA neg ks x y =>
  simp only[rd] at hk⊢;split at hk
  ·split at hk
   ·exact⟨_,hk,fun _ hx'=>hx',fun p _ _ _=>.v _ _⟩
   ·exact hk.elim
  ·exact hk.elim
 all_goals exact hk.elim
end
section
variable [Envs]
variable {P:Program}{C:Ctx}{a:Act}{w:World}{S:Nat→Prop}{ρ:Name→Option Nat}{κ:Name→Nat}
variable {N:Name→Prop}{h h':Name→Option Blk}{ev ev':Operand→AV}
theorem aMp {n:Name} (ha:Agr N h h') {op:AOp}{K:AV→Blk→Prop} (hz:∀z,op=.alloc z→dU N z) (hz2:∀k m z ps,op=.bslice k m z ps→dU N z) (hz3:∀k m z x,op=.mk k m z x→dU N z)
  (he:∀o,o∈aM op→ev o=ev' o∧Off N (ev o)) (hk:al ev h n K op):al ev' h' n K op:=by
 cases op
 case box x =>
  have⟨e1,e2⟩:=he x (by simp[aM]);simp only[al,←e1,←aCy ha e2] at hk⊢;exact hk
 case alloc z =>
  simp only[al] at hk⊢;rw[←uV (p:=fun x=>rD h x&&o7 x) fun x hx=>by rw[wU ha ((hz z rfl).mem x hx)]];exact hk
 case bslice k m z ps =>
  simp only[al] at hk⊢;rw[←uV (p:=rD h) fun x hx=>wU ha ((hz2 k m z ps rfl).mem x hx)];refine⟨hk.1,zA ha (fun p hp=>?_) hk.2⟩;obtain⟨q,hq,rfl⟩:=List.mem_map.1 hp;exact he _ (by simp only[aM,List.mem_map];exact⟨q,hq,rfl⟩)
 case mk k y z x =>
  have⟨e1,e2⟩:=he x (by simp[aM]);simp only[al,←e1] at hk⊢;split at hk
  ·rw[←uV (p:=fun x=>rD h x&&o7 x) fun x hx=>by rw[wU ha ((hz3 k y z _ rfl).mem x hx)]];exact hk
  ·exact hk.elim
 all_goals exact hk.elim
theorem xQ {n:Name}{op:AOp}{K:AV→Blk→Prop} (hk:al ev h n K op):∃x b,K x b∧(∀K':AV→Blk→Prop,K' x b→al ev h n K' op)∧
  (∀N:Name→Prop,¬N n→Off N x)∧∀N:Name→Prop,(∀z,op=.alloc z→dU N z)→(∀o,o∈aM op→Off N (ev o))→aCG N b:=by
 cases op
 case box x =>
  simp only[al] at hk⊢;split at hk
  ·rename_i c hc;exact⟨_,_,hk,fun _ h=>h,fun N hn=>Off.mk_ptr hn,fun N _ ho m hm=>aF9 (ho x (by simp[aM])) hc m hm⟩
  ·exact hk.elim
 case alloc z =>
  simp only[al] at hk⊢;exact⟨_,_,hk.2,fun _ h=>⟨hk.1,h⟩,fun N hn=>Off.mk_ptr hn,fun N hz _ m hm=>hz z rfl m hm⟩
 case bslice k m z ps =>
  simp only[al] at hk⊢;obtain⟨c,⟨h1,h2⟩,h3⟩:=vH hk.2;refine⟨_,_,h2,fun K' h=>⟨hk.1,wW (fun c' hc'=>?_) h3⟩,fun N hn=>Off.mk_loc hn,fun N _ _ m hm=>rfl⟩;rw[hc'];exact⟨h1,h⟩
 case mk k y z x =>
  simp only[al] at hk⊢;split at hk
  ·exact⟨_,_,hk.2,fun _ h=>⟨hk.1,h⟩,fun N hn=>Off.mk_loc hn,fun N _ _ m hm=>rfl⟩
  ·exact hk.elim
 all_goals exact hk.elim
theorem aCb {f g:AV→Option (AV×List Name)}:∀{c:List AV},(∀x,x∈c→f x=g x)→fB f c=fB g c
 | [],_=>rfl
 |x::r,hh=>by simp only[fB,hh x (by simp),aCb (c:=r) fun y hy=>hh y (by simp[hy])]
theorem yZ {f:AV→Option (AV×List Name)} (p:Name→Prop):∀{c c':List AV}{L:List Name},(∀x,x∈c→∀y L,f x=some (y,L)→∀n,n∈L→p n)→fB f c=some (c',L)→∀n,n∈L→p n
 | [],c',L,_,hm,n,hn=>by
  simp only[fB,Option.some.injEq,Prod.mk.injEq] at hm;rw[←hm.2] at hn;cases hn
 | x::r,c',L,hh,hm,n,hn=>by
  simp only[fB] at hm;split at hm
  ·rename_i y L1 ys L2 h1 h2;simp only[Option.some.injEq,Prod.mk.injEq] at hm;rw[←hm.2] at hn;rcases List.mem_append.1 hn with hn|hn
   ·exact hh x (by simp) y L1 h1 n hn
   ·exact yZ p (fun z hz=>hh z (by simp[hz])) h2 n hn
  ·cases hm
theorem aFf (ha:Agr N h h') (hb:∀n b,¬N n→h n=some b→aCG N b):∀(m:Nat) (c:Bool) (x:AV),Off N x→conv h m [] c x=conv h' m [] c x∧∀y L,conv h m [] c x=some (y,L)→∀n,n∈L→¬N n:=by
 intro m
 induction m with
 |zero=>intro c x _;exact⟨rfl,fun y L h=>by simp[conv] at h⟩
 | succ m ih =>
  intro c x ho
  have lists:∀(c:Bool) (cs:List AV),dU N cs→fB (conv h m [] c) cs=fB (conv h' m [] c) cs∧∀ys L,fB (conv h m [] c) cs=some (ys,L)→∀n,n∈L→¬N n:=fun c cs hcs =>
   ⟨aCb fun x hx=>(ih c x (hcs.mem x hx)).1,fun ys L hm=>yZ (fun n=>¬N n) (fun x hx y L hc=>(ih c x (hcs.mem x hx)).2 y L hc) hm⟩
  cases x
  case junk=>exact⟨rfl,fun y L h=>by simp only[conv] at h;split at h<;>simp at h;rw[h.2];simp⟩
  case v x=>exact⟨rfl,fun y L h=>by simp only[conv,Option.some.injEq,Prod.mk.injEq] at h;rw[←h.2];simp⟩
  case sl k l=>exact⟨rfl,fun y L h=>by simp only[conv,Option.some.injEq,Prod.mk.injEq] at h;rw[←h.2];simp⟩
  case ro c=>exact⟨rfl,fun y L h=>by simp only[conv,Option.some.injEq,Prod.mk.injEq] at h;rw[←h.2];simp⟩
  case loc n off len =>
   simp only[conv,kG];cases hx:h n with
   |none=>rw[ha.none ho.loc hx];exact⟨rfl,fun y L h=>by simp at h⟩
   | some b =>
    obtain⟨b',hb',e⟩:=ha.some ho.loc hx;rw[hb'];cases b with
    | var c z =>
     obtain⟨z',rfl⟩:=aAy e;exact⟨rfl,fun y L h=>by simp at h⟩
    | arr k l z =>
     obtain⟨z',rfl⟩:=yH e;refine⟨rfl,fun y L h=>?_⟩;simp only[Option.some.injEq,Prod.mk.injEq] at h;rw[←h.2];intro n' hn';rw[List.mem_singleton.1 hn'];exact ho.loc
  case ptr n e o =>
   simp only[conv,kG];cases hx:h n with
   |none=>rw[ha.none ho.ptr hx];exact⟨rfl,fun y L h=>by simp at h⟩
   | some b =>
    obtain⟨b',hb',e'⟩:=ha.some ho.ptr hx;rw[hb'];have hbo:=hb n b ho.ptr hx;cases b with
    | var c z =>
     obtain⟨z',rfl⟩:=aAy e';have hl:=lists true c hbo;simp only[hl.1,true_and];intro y L h;cases hm:fB (conv h' m [] true) c with
     |none=>rw[hm] at h;simp at h
     | some q =>
      rw[hm] at h;simp only[Option.map_some,Option.some.injEq,Prod.mk.injEq] at h;rw[←h.2];intro n' hn';rcases List.mem_cons.1 hn' with rfl|hn'
      ·exact ho.ptr
      ·exact hl.2 q.1 q.2 (by rw[hl.1,hm]) n' hn'
    | arr k l z =>
     obtain⟨z',rfl⟩:=yH e';refine⟨rfl,fun y L h=>?_⟩;simp only[Option.some.injEq,Prod.mk.injEq] at h;rw[←h.2];intro n' hn';rw[List.mem_singleton.1 hn'];exact ho.ptr
  all_goals
   rename_i cs;have hl:=lists c cs (by first|exact ho.fn|exact ho.agg|exact ho.tup);simp only[conv,hl.1,true_and];intro y L h;cases hm:fB (conv h' m [] c) cs with
   |none=>rw[hm] at h;simp at h
   | some q =>
    rw[hm] at h;simp only[Option.map_some,Option.some.injEq,Prod.mk.injEq] at h;rw[←h.2];exact hl.2 q.1 q.2 (by rw[hl.1,hm])
mutual
theorem aIz (φ:Name→Option Name) (n:Name) (hφ:∀m,φ m≠some n):∀x:AV,(rn φ x).has n=false
 |.v _=>rfl
 |.sl _ _=>rfl
 |.ro _=>rfl
 |.junk=>rfl
 | .loc m off len=>by
  simp only[rn];cases hm:φ m with
  |none=>rfl
  | some m' =>
   simp only[AV.has,decide_eq_false_iff_not];rintro rfl;exact hφ m hm
 | .ptr m e c=>by
  simp only[rn];cases hm:φ m with
  |none=>rfl
  | some m' =>
   simp only[AV.has,decide_eq_false_iff_not];rintro rfl;exact hφ m hm
 |.fn f c=>by simp only[rn,AV.has];exact aAa φ n hφ c
 |.agg c=>by simp only[rn,AV.has];exact aAa φ n hφ c
 |.tup c=>by simp only[rn,AV.has];exact aAa φ n hφ c
theorem aAa (φ:Name→Option Name) (n:Name) (hφ:∀m,φ m≠some n):∀c:List AV,nH n (rnL φ c)=false
 | []=>rfl
 |x::r=>by simp only[rnL,nH,aIz φ n hφ x,aAa φ n hφ r,Bool.or_self]
end
end
section
variable [Envs]
variable {P:Program}{C:Ctx}{a:Act}{w:World}{S:Nat→Prop}{ρ:Name→Option Nat}{κ:Name→Nat}
structure Dl where
 v:AV
 nb:List (Name×Blk)
 fz:Bool
 L:List Name
 nn:Name→Prop
def app (d:Option Nat) (δ:Dl) (σ:FSt):FSt:=
 ⟨upd σ.s d δ.v,fun m=>(aB δ.nb m).or ((σ.h m).map fun b=>if δ.fz=true∧m∈δ.L then frz b else b)⟩
def isV:AV→Bool
 |.v _=>true
 |_=>false
def okZ:AOp→Bool
 |.build z _=>z.all isV
 |.alloc z=>z.all isV
 |.bslice _ _ z _=>z.all isV
 |.mk _ _ z _=>z.all isV
 |_=>true
def nI:AOp→Bool
 |.call _ _ bor=>bor.isEmpty
 |.store .. | .append .. | .appendC .. | .bsliceC .. | .clr ..=>false
 |op=>okZ op
theorem aLe {p:Name→Prop}{z:List AV} (h:z.all isV=true):NmL p z:=by
 intro x hx;have:=List.all_eq_true.1 h x hx;cases x<;>simp[isV] at this;exact .v _ _
theorem aAJ {N:Name→Prop}{z:List AV} (h:z.all isV=true):dU N z:=by
 refine dU.of_mem fun x hx=>?_;have:=List.all_eq_true.1 h x hx;cases x<;>simp[isV] at this;exact Off.v _
inductive Eff (P:Program) (d:Option Nat) (op:AOp) (σ:FSt):Dl→Prop
 | rd (v:AV) (h1:vJ op=true) (h2:∀K:AV→Prop,K v→Vs.rd (evO σ.s) σ.h K op)
   (h3:∀p:Name→Prop,(∀o,o∈aM op→Nm p (evO σ.s o))→(∀n b,p n→σ.h n=some b→NmB p b)→Nm p v):Eff P d op σ ⟨v,[],false,[],fun _=>False⟩
 | al (d':Nat) (hd:d=some d') (v:AV) (b:Blk) (h1:∀K:AV→Blk→Prop,K v b→Vs.al (evO σ.s) σ.h (.t d' 0) K op) (hf:j3 (.t d' 0) σ) (hn:b.has (.t d' 0)=false)
   (h2:∀N:Name→Prop,¬N (.t d' 0)→Off N v) (h3:∀N:Name→Prop,(∀o,o∈aM op→Off N (evO σ.s o))→aCG N b):Eff P d op σ ⟨v,[(.t d' 0,b)],false,[],fun n=>n=.t d' 0⟩
 | call (d':Nat) (hd:d=some d') (f:Operand) (args:List Operand) (hop:op=.call f args []) (g:FuncId) (caps:List AV) (hg:evO σ.s f=.fn g caps) (ys:List AV) (L:List Name)
   (hm:fB (conv σ.h 8 [] false) (args.map (evO σ.s)++caps)=some (ys,L)) (r:AV) (hout:List (Option Blk)) (fz:Bool) (hfn:Fn P g [] ys r hout)
   (hflat:fz=false→(L=[]∨(flat r=true∧∀b,some b∈hout→aAB b))) (hfr:∀j,j<hout.length→j3 (.t d' j) σ) :
   Eff P d op σ ⟨rn (phi [] d' hout.length) r,rG (rnB (phi [] d' hout.length)) d' 0 0 hout,fz,L,fun n=>∃j,j<hout.length∧n=.t d' j⟩
def Canon (σ:St):Prop:=(∀p,p∈σ.s→look σ.s p.1=p.2)∧∀p,p∈σ.h→aB σ.h p.1=some p.2
def aCs:List (Nat×AV)→List (Nat×AV)
 | []=>[]
 |(i,x)::r=>(i,x)::(aCs r).filter fun p=>!decide (p.1=i)
def aCt:List (Name×Blk)→List (Name×Blk)
 | []=>[]
 |(i,x)::r=>(i,x)::(aCt r).filter fun p=>!decide (p.1=i)
theorem sJ (i:Nat):∀(s:List (Nat×AV)) (t:Nat),t≠i→look (s.filter fun p=>!decide (p.1=i)) t=look s t
 | [],_,_=>rfl
 | (j,x)::r,t,ht=>by
  by_cases hj:j=i
  ·simp only[List.filter_cons,hj,decide_true,Bool.not_true,Bool.false_eq_true,if_false,look,ht,sJ i r t ht]
  ·simp only[List.filter_cons,hj,decide_false,Bool.not_false,if_true,look,sJ i r t ht]
theorem qA (i:Name):∀(s:List (Name×Blk)) (t:Name),t≠i→aB (s.filter fun p=>!decide (p.1=i)) t=aB s t
 | [],_,_=>rfl
 | (j,x)::r,t,ht=>by
  by_cases hj:j=i
  ·simp only[List.filter_cons,hj,decide_true,Bool.not_true,Bool.false_eq_true,if_false,aB,ht,qA i r t ht]
  ·simp only[List.filter_cons,hj,decide_false,Bool.not_false,if_true,aB,qA i r t ht]
theorem aAY:∀s:List (Nat×AV),look (aCs s)=look s∧∀p,p∈aCs s→look (aCs s) p.1=p.2
 | []=>⟨rfl,by simp[aCs]⟩
 | (i,x)::r=>by
  obtain⟨h1,h2⟩:=aAY r
  have e:look (aCs ((i,x)::r))=look ((i,x)::r):=by
   funext t
   simp only[aCs,look];split
   ·rfl
   ·rename_i ht;rw[sJ i _ _ ht,h1]
  refine⟨e,fun p hp=>?_⟩;simp only[aCs,List.mem_cons,List.mem_filter,Bool.not_eq_true',decide_eq_false_iff_not] at hp;rcases hp with rfl|⟨hp,hne⟩
  ·simp[aCs,look]
  ·simp only[aCs,look,hne,if_false];rw[sJ i _ _ hne];exact h2 p hp
theorem aAZ:∀s:List (Name×Blk),aB (aCt s)=aB s∧∀p,p∈aCt s→aB (aCt s) p.1=some p.2
 | []=>⟨rfl,by simp[aCt]⟩
 | (i,x)::r=>by
  obtain⟨h1,h2⟩:=aAZ r
  have e:aB (aCt ((i,x)::r))=aB ((i,x)::r):=by
   funext t
   simp only[aCt,aB];split
   ·rfl
   ·rename_i ht;rw[qA i _ _ ht,h1]
  refine⟨e,fun p hp=>?_⟩;simp only[aCt,List.mem_cons,List.mem_filter,Bool.not_eq_true',decide_eq_false_iff_not] at hp;rcases hp with rfl|⟨hp,hne⟩
  ·simp[aCt,aB]
  ·simp only[aCt,aB,hne,if_false];rw[qA i _ _ hne];exact h2 p hp
def canon (σ:St):St:=⟨aCs σ.s,aCt σ.h⟩
theorem lM (σ:St):(canon σ).f=σ.f:=by simp only[canon,St.f,(aAY σ.s).1,(aAZ σ.h).1]
theorem aAG (σ:St):Canon (canon σ):=⟨(aAY σ.s).2,(aAZ σ.h).2⟩
theorem yI {n:Name}{σ:St} (hc:Canon σ) (hn:n.isT=true) (hf:j3 n σ.f):dE n σ=true:=by
 simp only[dE,Bool.and_eq_true,List.all_eq_true,Bool.not_eq_true',decide_eq_false_iff_not];refine⟨⟨hn,fun p hp=>?_⟩,fun p hp=>⟨?_,?_⟩⟩
 ·rw[←hc.1 p hp];exact hf.2.1 p.1
 ·intro e;have h1:=hf.1.1;have h2:=hc.2 p hp;rw[e] at h2;simp only[St.f] at h1;rw[h1] at h2;cases h2
 ·exact hf.2.2 p.1 p.2 (hc.2 p hp)
theorem zP {op:AOp} (h:vJ op=true) {d:Option Nat}{σ:St}{K:St→Prop}:bK P d σ K op↔rd (evO (look σ.s)) (aB σ.h) (fun v=>K ⟨put d v σ.s,σ.h⟩) op:=by
 cases op<;>first|rfl|simp[vJ] at h
theorem aGf {d:Option Nat}{σ:St}{v:AV}{nn:Name→Prop}:(St.mk (put d v σ.s) σ.h).f=app d ⟨v,[],false,[],nn⟩ σ.f:=by
 simp only[St.f,app,kK,aB,Option.none_or,Bool.false_eq_true,false_and,if_false];congr 1
 funext m
 cases aB σ.h m<;>rfl
theorem aGg {d:Nat}{σ:St}{v:AV}{b:Blk}{n:Name}{nn:Name→Prop}:(St.mk ((d,v)::σ.s) ((n,b)::σ.h)).f=app (some d) ⟨v,[(n,b)],false,[],nn⟩ σ.f:=by
 simp only[St.f,app,Bool.false_eq_true,false_and,if_false];congr 1
 funext m
 simp only[aB];by_cases hm:m=n
 ·simp[hm]
 ·simp only[hm,if_false,Option.none_or];cases aB σ.h m<;>rfl
theorem aFo {d:Nat}{σ:St}{v:AV}{hout:List (Option Blk)}{fz:Bool}{L:List Name}{nn:Name→Prop} :
  (St.mk ((d,v)::σ.s) (xR σ.h [] d hout fz L)).f=app (some d) ⟨v,rG (rnB (phi [] d hout.length)) d 0 0 hout,fz,L,nn⟩ σ.f:=by
 simp only[St.f,app];congr 1
 funext m
 unfold xR;rw[aAu];simp only[List.length_nil];congr 1;rw[zF _ (fun m b b' h=>by simp[aFp,kG] at h)];cases aB σ.h m with
 |none=>rfl
 |some b=>simp[aFp,kG]
theorem aBj {d:Option Nat}{σ:St}{K:St→Prop}{op:AOp} (hfree:nI op=true) (hd:vJ op=true∨d.isSome=true) (hv:bK P d σ K op) :
  ∃δ,Eff P d op σ.f δ∧∃σ':St,σ'.f=app d δ σ.f∧K σ':=by
 by_cases hr:vJ op=true
 ·rw[zP hr] at hv;obtain⟨x,h1,h2,h3⟩:=aAd hv;refine⟨_,.rd x hr h2 (fun p ho hb=>h3 p (fun z ps e=>?_) ho hb),_,aGf,h1⟩;subst e;exact aLe (by simpa[nI,okZ] using hfree)
 ·have hd:=hd.resolve_left hr;obtain⟨d',rfl⟩:=Option.isSome_iff_exists.1 hd
  have alc:∀{op:AOp},nI op=true→al (evO (look σ.s)) (aB σ.h) (.t d' 0) (fun v b=>(dE (.t d' 0) σ=true∧b.has (.t d' 0)=false)∧K ⟨(d',v)::σ.s,(.t d' 0,b)::σ.h⟩) op→
    ∃δ,Eff P (some d') op σ.f δ∧∃σ':St,σ'.f=app (some d') δ σ.f∧K σ':=by
   intro op hfree hv;obtain⟨x,b,⟨⟨h1,h2⟩,h3⟩,h4,h5,h6⟩:=xQ hv;refine⟨_,.al d' rfl x b h4 (eQ h1) h2 h5 (fun N ho=>h6 N (fun z e=>?_) ho),_,aGg,h3⟩;subst e;exact aAJ (by simpa[nI,okZ] using hfree)
  cases op
  case box x=>exact alc hfree hv
  case alloc z=>exact alc hfree hv
  case bslice k m z ps=>exact alc hfree hv
  case mk k y z n=>exact alc hfree hv
  case call f args bor =>
   simp only[nI,List.isEmpty_iff] at hfree;subst hfree;simp only[bK,aCA] at hv;split at hv
   ·rename_i g caps hg;have hB:aFl σ.h (args.map (evO (look σ.s))) []=[]:=rfl;rw[hB] at hv;split at hv
    ·rename_i ys L1 hin L2 h1 h2;simp only[uS,Option.some.injEq,Prod.mk.injEq] at h2;obtain⟨rfl,rfl⟩:=h2;obtain⟨_,r,hout,fz,hfn,hflat,hfr,hK⟩:=hv;simp only[List.append_nil,Option.getD_some,List.length_nil] at hflat hfr hK
     have hfr':∀j,j<hout.length→j3 (.t d' j) σ.f:=by
      intro j hj;simp only[jL,List.all_eq_true,List.mem_range] at hfr;have:=hfr j hj;simp only[Nat.not_lt_zero,decide_false,Bool.false_or] at this;exact eQ this
     exact⟨_,.call d' rfl f args rfl g caps hg ys L1 h1 r hout fz hfn hflat hfr',_,aFo,hK⟩
    ·exact hv.elim
   ·exact hv.elim
  all_goals first|(simp[nI] at hfree;done)|(simp[vJ] at hr;done)
theorem wF {d:Option Nat}{σ:St}{op:AOp}{δ:Dl} (hc:Canon σ) (he:Eff P d op σ.f δ):bK P d σ (fun σ'=>σ'.f=app d δ σ.f) op:=by
 cases he with
 | rd v h1 h2 h3 =>
  rw[zP h1];exact h2 _ aGf
 | al d' hd v b h1 hf hn h2 h3 =>
  subst hd;have hfl:=yI hc rfl hf;have:=h1 (fun v b=>(dE (.t d' 0) σ=true∧b.has (.t d' 0)=false)∧(St.mk ((d',v)::σ.s) ((.t d' 0,b)::σ.h)).f=app (some d') ⟨v,[(.t d' 0,b)],false,[],fun n=>n=.t d' 0⟩ σ.f) ⟨⟨hfl,hn⟩,aGg⟩
  cases op<;>first
   |exact this.elim
   | (simp only[bK]
      exact h1 _ ⟨⟨hfl,hn⟩,aGg⟩)
 | call d' hd f args hop g caps hg ys L hm r hout fz hfn hflat hfr =>
  subst hd;subst hop;simp only[bK,aCA];have hg':evO (look σ.s) f=.fn g caps:=hg;have hm':fB (conv (aB σ.h) 8 [] false) (args.map (evO (look σ.s))++caps)=some (ys,L):=hm;have hB:aFl σ.h (args.map (evO (look σ.s))) []=[]:=rfl;rw[hg',hB];simp only[hm',uS];refine⟨rfl,r,hout,fz,hfn,by simpa using hflat,?_,?_⟩
  ·simp only[jL,List.all_eq_true,List.mem_range];intro j hj;simp only[Option.getD_some,yI hc rfl (hfr j hj),Bool.or_true]
  ·simp only[List.append_nil,Option.getD_some,List.length_nil];exact aFo
end
section
variable [Envs]
variable {P:Program}{C:Ctx}{a:Act}{w:World}{S:Nat→Prop}{ρ:Name→Option Nat}{κ:Name→Nat}
structure WF (σ:FSt):Prop where
 s:∀t,Nm (fun _=>True) (σ.s t)
 h:∀n b,σ.h n=some b→NmB (fun _=>True) b
theorem aLu {x:AV}{v:Value} (h:RC S w x v):Nm (fun _=>False) x:=by
 have key:∀(c:List AV),(∀j,j<c.length→Nm (fun _=>False) (c.getD j .junk))→∀y,y∈c→Nm (fun _=>False) y:=by
  intro c hc y hy;obtain⟨j,hj,rfl⟩:=List.mem_iff_getElem.1 hy;have:=hc j hj;simpa[List.getD,hj] using this
 induction h with
 |v x=>exact .v _ _
 | sl k l base cap x off xs hb hc ho hr hk hcap ih =>
  refine .sl _ _ _ fun r hr' y hy=>?_;obtain⟨i,hi,rfl⟩:=List.mem_iff_getElem.1 hr';have e:l.getD i []=l[i]:=by simp[List.getD,hi]
  refine key _ (fun j hj=>?_) y hy;have:=ih i j hi (by rw[←hk i hi,e];exact hj)
  rwa [e] at this
 |ro c x off xs hx hc ho hr ih=>exact .ro _ _ (key c ih)
 |fn f c vs hl hr ih=>exact .fn _ _ _ (key c ih)
 |agg c vs hl hr ih=>exact .agg _ _ (key c ih)
 |tup c vs hl hr ih=>exact .tup _ _ (key c ih)
theorem aLs {h:Name→Option Blk}{x:AV}{v:Value} (hx:RV S w ρ κ h x v):Nm (fun _=>True) x:=by
 have key:∀(c:List AV),(∀j,j<c.length→Nm (fun _=>True) (c.getD j .junk))→∀y,y∈c→Nm (fun _=>True) y:=by
  intro c hc y hy;obtain⟨j,hj,rfl⟩:=List.mem_iff_getElem.1 hy;have:=hc j hj;simpa[List.getD,hj] using this
 induction hx with
 |junk v=>exact .junk _
 |clo hx=>exact(aLu hx).mono fun _ h=>h.elim
 |loc n off len v hv=>exact .loc _ _ _ _ trivial
 |ptr n e c v hv=>exact .ptr _ _ _ _ trivial
 |fn f c vs hl hr ih=>exact .fn _ _ _ (key c ih)
 |agg c vs hl hr ih=>exact .agg _ _ (key c ih)
 |tup c vs hl hr ih=>exact .tup _ _ (key c ih)
theorem OK.wf {σ:FSt} (hok:OK C σ a w S ρ κ):WF σ:=by
 refine⟨fun t=>aLs (hok.slots t),fun n b hb=>?_⟩;have hk:=hok.hok.blk n b hb;cases b with
 | var c z =>
  obtain⟨x,cs,T,fr,_,_,_,_,_,_,_,h7⟩:=hk;intro y hy;obtain⟨j,hj,rfl⟩:=List.mem_iff_getElem.1 hy;have:=aLs (h7 j hj).2;simpa[List.getD,hj] using this
 | arr k l z =>
  obtain⟨h0,⟨_,rfl⟩|⟨x,cs,T,fr,_,_,_,_,_,_,_,h7⟩⟩:=hk
  ·intro r hr;cases hr
  ·intro r hr y hy;obtain⟨i,hi,rfl⟩:=List.mem_iff_getElem.1 hr;obtain⟨j,hj,rfl⟩:=List.mem_iff_getElem.1 hy;have e:l.getD i []=l[i]:=by simp[List.getD,hi]
   have:=aLu (h7 i j hi (by rw[←h0 i hi,e];exact hj)).2;rw[e] at this;simpa[List.getD,hj] using this
theorem Nm.and {p q:Name→Prop}{x:AV} (hx:Nm p x) (ho:Off (fun n=>¬q n) x):Nm (fun n=>p n∧q n) x:=by
 induction hx with
 |junk=>exact .junk _
 |v=>exact .v _ _
 |sl _ k l hl _=>exact .sl _ k l hl
 |ro _ c hc _=>exact .ro _ c hc
 |loc _ n off len hn=>exact .loc _ n off len ⟨hn,Classical.not_not.1 ho.loc⟩
 |ptr _ n e c hn=>exact .ptr _ n e c ⟨hn,Classical.not_not.1 ho.ptr⟩
 |fn _ f c hc ih=>exact .fn _ f c fun x hx=>ih x hx (ho.fn.mem x hx)
 |agg _ c hc ih=>exact .agg _ c fun x hx=>ih x hx (ho.agg.mem x hx)
 |tup _ c hc ih=>exact .tup _ c fun x hx=>ih x hx (ho.tup.mem x hx)
theorem aCG.mem {N:Name→Prop}{c:List AV}{z:Bool} (ho:aCG N (.var c z)):dU N c:=fun n hn=>ho n hn
theorem NmB.and {p q:Name→Prop}{b:Blk} (hx:NmB p b) (ho:aCG (fun n=>¬q n) b):NmB (fun n=>p n∧q n) b:=by
 cases b with
 |var c z=>exact fun x hx'=>(hx x hx').and (ho.mem.mem x hx')
 |arr k l z=>exact hx
theorem NmB.frz {p:Name→Prop}{b b':Blk} (hb:frz b'=frz b) (hx:NmB p b):NmB p b':=by
 cases b<;>cases b'<;>simp[Vs.frz] at hb<;>simp_all [NmB]
theorem Eff.move {d:Option Nat}{op:AOp}{σ σ':FSt}{δ:Dl}{N:Name→Prop} (he:Eff P d op σ δ) (hfree:nI op=true)
  (ho:∀o,o∈aM op→evO σ.s o=evO σ'.s o∧Off N (evO σ.s o)) (ha:Agr N σ.h σ'.h) (hb:∀n b,¬N n→σ.h n=some b→aCG N b)
  (hf:∀n,δ.nn n→j3 n σ'):Eff P d op σ' δ:=by
 cases he with
 | rd v h1 h2 h3 =>
  refine .rd v h1 (fun K hK=>aLP ha ho (h2 K hK)) fun p hp hh=>?_;have e:(fun n=>¬¬N n)=N:=funext fun n=>propext Classical.not_not;have:=h3 (fun n=>p n∧¬N n) (fun o hm=>?_) (fun n b hn hx=>?_)
  ·exact this.mono fun n h=>h.1
  ·obtain⟨e1,e2⟩:=ho o hm;refine Nm.and ?_ (by rw[e];exact e2);rw[e1];exact hp o hm
  ·obtain⟨b',h4,h5⟩:=ha.some hn.2 hx;refine NmB.and (NmB.frz h5.symm (hh n b' hn.1 h4)) (by rw[e];exact hb n b hn.2 hx)
 | al d' hd v b h1 hf' hn h2 h3 =>
  refine .al d' hd v b (fun K hK=>aMp ha ?_ ?_ ?_ ho (h1 K hK)) (hf _ rfl) hn h2 fun N' hN'=>h3 N' fun o hm=>by rw[(ho o hm).1];exact hN' o hm
  ·rintro z rfl;exact aAJ (by simpa[nI,okZ] using hfree)
  ·rintro k m z ps rfl;exact aAJ (by simpa[nI,okZ] using hfree)
  ·rintro k m z ps rfl;exact aAJ (by simpa[nI,okZ] using hfree)
 | call d' hd f args hop g caps hg ys L hm r hout fz hfn hflat hfr =>
  subst hop;have⟨ef,of⟩:=ho f (by simp[aM]);rw[hg] at of;have hargs:args.map (evO σ.s)=args.map (evO σ'.s):=List.map_congr_left fun o hm=>(ho o (by simp[aM,hm])).1;refine .call d' hd f args rfl g caps (by rw[←ef];exact hg) ys L ?_ r hout fz hfn hflat fun j hj=>?_
  ·rw[←hargs,←aCb (f:=conv σ.h 8 [] false) fun x hx=>?_]
   ·exact hm
   ·refine(aFf ha hb 8 false x ?_).1;rcases List.mem_append.1 hx with hx|hx
    ·obtain⟨o,hm',rfl⟩:=List.mem_map.1 hx;exact(ho o (by simp[aM,hm'])).2
    ·exact of.fn.mem x hx
  ·exact hf _ ⟨j,hj,rfl⟩
theorem Eff.new {d:Option Nat}{op:AOp}{σ:FSt}{δ:Dl} (he:Eff P d op σ δ):(∀n,δ.nn n→∃d' j,d=some d'∧n=.t d' j∧j3 n σ)∧∀n b,aB δ.nb n=some b→δ.nn n:=by
 cases he with
 |rd v h1 h2 h3=>exact⟨fun n hn=>hn.elim,fun n b hb=>by simp[aB] at hb⟩
 | al d' hd v b h1 hf' hn h2 h3 =>
  refine⟨fun n hn=>⟨d',0,hd,hn,by rw[hn];exact hf'⟩,fun n b' hb=>?_⟩;simp only[aB] at hb;split at hb
  ·assumption
  ·cases hb
 | call d' hd f args hop g caps hg ys L hm r hout fz hfn hflat hfr =>
  refine⟨fun n ⟨j,hj,e⟩=>⟨d',j,hd,e,by rw[e];exact hfr j hj⟩,fun n b hb=>?_⟩;rw[zG] at hb;cases n with
  |b j=>simp[sU] at hb
  | t d'' j =>
   simp only[sU] at hb;split at hb
   ·rename_i hc;exact⟨j,by omega,by rw[hc.1]⟩
   ·cases hb
theorem aKi {N:Name→Prop}{φ:Name→Option Name} (hφ:∀n m,N n→φ m≠some n) (b:Blk):aCG N (rnB φ b):=by
 cases b with
 |var c z=>exact fun n hn=>aAa φ n (fun m=>hφ n m hn) c
 |arr k l z=>exact fun n hn=>rfl
theorem yB {g:Blk→Blk}{d nB:Nat}:∀{l:List (Option Blk)}{i:Nat}{n:Name}{b:Blk},(n,b)∈rG g d nB i l→∃b',b=g b'
 | [],_,_,_,h=>by simp[rG] at h
 |none::r,i,n,b,h=>yB (l:=r) (i:=i+1) (by simpa[rG] using h)
 | some x::r,i,n,b,h=>by
  simp only[rG] at h;split at h
  ·rcases List.mem_cons.1 h with h|h
   ·simp only[Prod.mk.injEq] at h;exact⟨x,h.2⟩
   ·exact yB h
  ·exact yB h
theorem Eff.off {d:Option Nat}{op:AOp}{σ:FSt}{δ:Dl}{N:Name→Prop} (he:Eff P d op σ δ) (hN:∀n,δ.nn n→¬N n) (hown:∀d' j,d=some d'→¬N (.t d' j)) (hs:WF σ)
  (ho:∀o,o∈aM op→Off N (evO σ.s o)) (hb:∀n b,¬N n→σ.h n=some b→aCG N b) :
  Off N δ.v∧(∀n b,aB δ.nb n=some b→aCG N b)∧∀n,n∈δ.L→¬N n:=by
 have ev_nm:∀o,Nm (fun _=>True) (evO σ.s o):=by
  intro o;cases o with
  |tmp t=>exact hs.s t
  | const v =>
   simp only[evO]
   cases v<;>first
    |exact .v _ _
    | (simp only[AV.ofValue]
       refine .agg _ _ fun x hx=>?_;obtain⟨y,_,rfl⟩:=List.mem_map.1 hx;exact .v _ _)
  |global g=>exact .junk _
  |func f=>exact .fn _ _ _ (by simp)
 cases he with
 | rd v h1 h2 h3 =>
  refine⟨?_,fun n b hb=>by simp[aB] at hb,by simp⟩;have:=h3 (fun n=>¬N n) (fun o hm=>(ev_nm o).of_off (ho o hm)) fun n b hn hx=>?_
  ·exact this.off fun n hn=>hn
  ·have e:(fun n=>¬¬N n)=N:=funext fun n=>propext Classical.not_not;have:=NmB.and (q:=fun n=>¬N n) (hs.h n b hx) (by rw[e];exact hb n b hn hx);cases b with
   |var c z=>exact fun x hx=>(this x hx).mono fun _ h=>h.2
   |arr k l z=>exact this
 | al d' hd v b h1 hf' hn h2 h3 =>
  refine⟨h2 N (hN _ rfl),fun n b' hb'=>?_,by simp⟩;simp only[aB] at hb';split at hb'
  ·obtain rfl:=Option.some.inj hb';exact h3 N ho
  ·cases hb'
 | call d' hd f args hop g caps hg ys L hm r hout fz hfn hflat hfr =>
  subst hop
  have hφ:∀n m,N n→phi [] d' hout.length m≠some n:=by
   intro n m hn e;cases m with
   |t a b=>simp[phi] at e
   | b j =>
    simp only[phi,List.length_nil,Nat.not_lt_zero,if_false] at e;split at e
    ·exact hown d' j hd (by rw[Option.some.inj e];exact hn)
    ·cases e
  refine⟨fun n hn=>aIz _ n (fun m=>hφ n m hn) r,fun n b hx=>?_,fun n hn=>?_⟩
  ·obtain⟨b',rfl⟩:=yB (uK _ _ _ hx);exact aKi hφ b'
  ·have of:=ho f (by simp[aM]);rw[hg] at of;refine yZ (fun n=>¬N n) (fun x hx y L' hc=>?_) hm n hn;refine(aFf (h':=σ.h) (fun _ _=>rfl) hb 8 false x ?_).2 y L' hc;rcases List.mem_append.1 hx with hx|hx
   ·obtain⟨o,hm',rfl⟩:=List.mem_map.1 hx;exact ho o (by simp[aM,hm'])
   ·exact of.fn.mem x hx
theorem yQ (d:Option Nat) (δ:Dl) (σ:FSt) (n:Name):(app d δ σ).h n=(aB δ.nb n).or ((σ.h n).map fun b=>if δ.fz=true∧n∈δ.L then frz b else b):=rfl
theorem aL9 (b:Blk) (p:Prop) [Decidable p]:frz (if p then frz b else b)=frz b:=by
 split
 ·cases b<;>rfl
 ·rfl
theorem aG9 {d:Option Nat}{δ:Dl}{σ:FSt} (hn:∀n b,aB δ.nb n=some b→δ.nn n):Agr δ.nn σ.h (app d δ σ).h:=by
 intro n h;rw[yQ];cases hx:aB δ.nb n with
 |some b=>exact absurd (hn n b hx) h
 | none =>
  rw[Option.none_or];cases σ.h n with
  |none=>rfl
  |some b=>simp only[Option.map_some,aL9]
theorem mI {d:Option Nat}{δ:Dl}{σ:FSt}{t:Nat} (h:d≠some t):(app d δ σ).s t=σ.s t:=by
 cases d with
 |none=>rfl
 | some d =>
  simp only[app,upd];rw[if_neg];rintro rfl;exact h rfl
theorem lJ {d:Nat}{δ:Dl}{σ:FSt}:(app (some d) δ σ).s d=δ.v:=by simp[app,upd]
theorem aBG {d:Option Nat}{δ:Dl}{σ:FSt}{o:Operand} (h:∀t,d=some t→o≠.tmp t):evO (app d δ σ).s o=evO σ.s o:=by
 cases o with
 | tmp t =>
  simp only[evO];exact mI fun e=>h t e rfl
 |_=>rfl
theorem j3.off {n:Name}{σ:FSt} (h:j3 n σ) (o:Operand):(evO σ.s o).has n=false:=by
 cases o with
 |tmp t=>exact h.2.1 t
 | const v =>
  simp only[evO]
  cases v<;>first
   |rfl
   | (simp only[AV.ofValue,AV.has]
      have:dU (fun m=>m=n) (List.map (fun x=>AV.v x) (Array.toList ‹_›)):=dU.of_mem fun x hx=>by
        obtain⟨y,_,rfl⟩:=List.mem_map.1 hx;exact Off.v _
      exact this n rfl)
 |global g=>rfl
 |func f=>rfl
theorem aFW (b:Blk) (p:Prop) [Decidable p] (n:Name):(if p then frz b else b).has n=b.has n:=by
 split
 ·exact aKZ (by cases b<;>rfl) n
 ·rfl
theorem aJr {dx dy:Option Nat}{x y:AOp}{σ:FSt}{δx δy:Dl} (hx:Eff P dx x σ δx) (hy:Eff P dy y (app dx δx σ) δy) (hs:WF σ) (fx:nI x=true) (fy:nI y=true)
  (a1:∀t,dx=some t→∀o,o∈aM y→o≠.tmp t) (a2:∀t,dy=some t→∀o,o∈aM x→o≠.tmp t) (a3:∀t,dx=some t→dy≠some t)
  (j1:∀t,dx=some t→σ.s t=.junk) (j2:∀t,dy=some t→σ.s t=.junk) :
  Eff P dy y σ δy∧Eff P dx x (app dy δy σ) δx∧app dx δx (app dy δy σ)=app dy δy (app dx δx σ):=by
 obtain⟨nx,bx⟩:=hx.new;obtain⟨ny,by'⟩:=hy.new
 have hxy:∀n,δx.nn n→¬δy.nn n:=by
  intro n h1 h2;obtain⟨d1,i1,e1,rfl,_⟩:=nx n h1;obtain⟨d2,i2,e2,e3,_⟩:=ny _ h2;simp only[Name.t.injEq] at e3;exact a3 d1 e1 (by rw[e2,e3.1])
 have sx:∀o,Off δx.nn (evO σ.s o):=fun o n hn=>by obtain⟨_,_,_,_,hf⟩:=nx n hn;exact hf.off o
 have hbx:∀n b,σ.h n=some b→aCG δx.nn b:=fun n b hb m hm=>by obtain⟨_,_,_,_,hf⟩:=nx m hm;exact hf.2.2 n b hb
 have hnone:∀n,δx.nn n→σ.h n=none:=fun n hn=>by obtain⟨_,_,_,_,hf⟩:=nx n hn;exact hf.1.1
 have agx:=aG9 (d:=dx) (σ:=σ) bx
 have fy':∀n,δy.nn n→j3 n σ:=by
  intro n hn;obtain⟨d2,i2,e2,rfl,hf⟩:=ny n hn;have hnx:¬δx.nn (.t d2 i2):=fun h=>hxy _ h hn;refine⟨⟨?_,hf.1.2⟩,fun t=>?_,fun m b hb=>?_⟩
  ·have:=hf.1.1;rw[yQ] at this;cases hσ:σ.h (.t d2 i2) with
   |none=>rfl
   |some b=>rw[hσ] at this;simp at this
  ·by_cases ht:dx=some t
   ·rw[j1 t ht];rfl
   ·have:=hf.2.1 t
    rwa [mI ht] at this
  ·have h1:¬δx.nn m:=fun h=>by rw[hnone m h] at hb;cases hb
   have h2:aB δx.nb m=none:=by
    cases h:aB δx.nb m with
    |none=>rfl
    |some b=>exact absurd (bx m b h) h1
   have:=hf.2.2 m (if δx.fz=true∧m∈δx.L then frz b else b) (by rw[yQ,h2,hb];rfl)
   rwa [aFW] at this
 have hy1:Eff P dy y σ δy:=by
  refine hy.move (N:=δx.nn) fy (fun o ho=>?_) agx.symm (fun n b hn hb=>?_) fy'
  ·have e:=aBG (δ:=δx) (σ:=σ) (fun t ht=>a1 t ht o ho);exact⟨e,by rw[e];exact sx o⟩
  ·rw[yQ] at hb
   have h2:aB δx.nb n=none:=by
    cases h:aB δx.nb n with
    |none=>rfl
    |some b=>exact absurd (bx n b h) hn
   rw[h2,Option.none_or] at hb;cases hσ:σ.h n with
   |none=>rw[hσ] at hb;cases hb
   | some b0 =>
    rw[hσ] at hb;obtain rfl:=Option.some.inj hb;intro m hm;rw[aFW];exact hbx n b0 hσ m hm
 obtain ⟨ov,ob,oL⟩:=hy1.off (N:=δx.nn) (fun n hn h=>hxy n h hn) (fun d' j hd' h=>by
   obtain⟨d1,i1,e1,e2,_⟩:=nx _ h;simp only[Name.t.injEq] at e2;exact a3 d1 e1 (by rw[hd',e2.1])) hs (fun o _=>sx o) (fun n b _ hb=>hbx n b hb)
 have agy:=aG9 (d:=dy) (σ:=σ) by';have sy:∀o,Off δy.nn (evO σ.s o):=fun o n hn=>(fy' n hn).off o
 have hx1:Eff P dx x (app dy δy σ) δx:=by
  refine hx.move (N:=δy.nn) fx (fun o ho=>⟨(aBG (δ:=δy) (σ:=σ) (fun t ht=>a2 t ht o ho)).symm,sy o⟩) agy (fun n b _ hb m hm=>(fy' m hm).2.2 n b hb) fun n hn=>?_;obtain⟨d1,i1,e1,rfl,hf⟩:=nx n hn;have hny:=hxy _ hn;refine⟨⟨?_,hf.1.2⟩,fun t=>?_,fun m b hb=>?_⟩
  ·rw[yQ,hf.1.1];cases h:aB δy.nb (.t d1 i1) with
   |none=>rfl
   |some b=>exact absurd (by' _ b h) hny
  ·by_cases ht:dy=some t
   ·subst ht;rw[lJ];exact ov _ hn
   ·rw[mI ht];exact hf.2.1 t
  ·rw[yQ] at hb;cases h:aB δy.nb m with
   | some b' =>
    rw[h] at hb;obtain rfl:=Option.some.inj hb;exact ob m _ h _ hn
   | none =>
    rw[h,Option.none_or] at hb;cases hσ:σ.h m with
    |none=>rw[hσ] at hb;cases hb
    | some b0 =>
     rw[hσ] at hb;obtain rfl:=Option.some.inj hb;rw[aFW];exact hbx m b0 hσ _ hn
 refine⟨hy1,hx1,?_⟩
 obtain ⟨_,_,oLx⟩:=hx.off (N:=δy.nn) (fun n hn=>hxy n hn) (fun d' j hd' h=>by
   obtain⟨d1,i1,e1,e2,_⟩:=ny _ h;simp only[Name.t.injEq] at e2;exact a3 d' hd' (by rw[e1,e2.1])) hs (fun o _=>sy o) (fun n b _ hb m hm=>(fy' m hm).2.2 n b hb)
 have e1:(app dx δx (app dy δy σ)).s=(app dy δy (app dx δx σ)).s:=by
  funext t
  by_cases h1:dx=some t
  ·have h2:=a3 t h1;subst h1;rw[lJ,mI h2,lJ]
  ·by_cases h2:dy=some t
   ·rw[mI h1];subst h2;rw[lJ,lJ]
   ·rw[mI h1,mI h2,mI h2,mI h1]
 have e2:(app dx δx (app dy δy σ)).h=(app dy δy (app dx δx σ)).h:=by
  funext n
  simp only[yQ];cases h1:aB δx.nb n with
  | some b1 =>
   have hn:=bx n b1 h1
   have h2:aB δy.nb n=none:=by
    cases h:aB δy.nb n with
    |none=>rfl
    |some b=>exact absurd (by' n b h) (hxy n hn)
   have h3:n∉δy.L:=fun h=>oL n h hn;simp only[h2,Option.none_or,Option.some_or,Option.map_some,h3,and_false,if_false]
  | none =>
   cases h2:aB δy.nb n with
   | some b2 =>
    have h3:n∉δx.L:=fun h=>oLx n h (by' n b2 h2);simp only[Option.none_or,Option.some_or,Option.map_some,h3,and_false,if_false]
   | none =>
    simp only[Option.none_or];cases σ.h n with
    |none=>rfl
    | some b =>
     simp only[Option.map_some,Option.some.injEq];cases b<;>split<;>split<;>simp[frz]
 show(⟨_,_⟩:FSt)=⟨_,_⟩
 exact congr (congrArg FSt.mk e1) e2
end
section
variable [Envs]
variable {P:Program}{C:Ctx}{a:Act}{w:World}{S:Nat→Prop}{ρ:Name→Option Nat}{κ:Name→Nat}
theorem aG5 {b c:Bool} (h:b≠c):b = !c:=by cases b<;>cases c<;>simp at h<;>rfl
def eT (o:aJ):Bool:=nI o.op&&(vJ o.op||o.dst.isSome)
def aGq:AOp:=.mv (.const (.tuple #[]))
def aBr (b:Bool) (o:aJ):AOp:=if b then o.op else aGq
def EffS (P:Program) (b:Bool) (o:aJ) (σ:FSt) (δ:Dl):Prop:=Eff P o.dst (aBr b o) σ δ
def runs (o:aJ) (σ:FSt) (b:Bool):Prop:=
 match o.guard with
 |none=>b=true
 |some (g,want)=>(∃c,σ.s g=.v (.bool c)∧b=(c==want))∨((∃cs,σ.s g=.v (.tuple cs))∧b=false)
def xS (P:Program) (o:aJ) (σ:FSt) (δ:Dl):Prop:=∃b,runs o σ b∧EffS P b o σ δ
def aDe (d:Option Nat) (σ σ':St):Prop:=∀t,d≠some t→look σ.s t=.junk→look σ'.s t=.junk
def vcE (P:Program) (K:FSt→Prop):List aJ→FSt→Prop
 | [],σ=>K σ
 | o::r,σ=>if eT o=true then ∃δ,xS P o σ δ∧vcE P K r (app o.dst δ σ)
  else ∃σl:St,σl.f=σ∧vc P (fun σ'=>vcE P K r σ'.f∧aDe o.dst σl σ') [o] σl
theorem rA (d:Option Nat) (x:AV) (σ:St) (h:List (Name×Blk)):aDe d σ ⟨put d x σ.s,h⟩:=by
 intro t ht hj;show look (put d x σ.s) t=_
 rw[kK];cases d with
 |none=>exact hj
 | some d =>
  simp only[upd];rw[if_neg (by rintro rfl;exact ht rfl)];exact hj
theorem aBU {d:Option Nat}{σ:St}{K:St→Prop}{op:AOp} (hv:bK P d σ K op):bK P d σ (fun σ'=>K σ'∧aDe d σ σ') op:=by
 by_cases hr:vJ op=true
 ·rw[zP hr] at hv⊢;obtain⟨x,h1,h2,_⟩:=aAd hv;exact h2 _ ⟨h1,rA _ _ _ _⟩
 ·have alc:∀{op:AOp}{d':Nat},al (evO (look σ.s)) (aB σ.h) (.t d' 0) (fun v b=>(dE (.t d' 0) σ=true∧b.has (.t d' 0)=false)∧K ⟨(d',v)::σ.s,(.t d' 0,b)::σ.h⟩) op→
    al (evO (look σ.s)) (aB σ.h) (.t d' 0) (fun v b=>(dE (.t d' 0) σ=true∧b.has (.t d' 0)=false)∧K ⟨(d',v)::σ.s,(.t d' 0,b)::σ.h⟩∧aDe (some d') σ ⟨(d',v)::σ.s,(.t d' 0,b)::σ.h⟩) op:=by
   intro op d' hv;obtain⟨x,b,⟨h1,h3⟩,h4,_⟩:=xQ hv;exact h4 _ ⟨h1,h3,rA (some d') _ _ _⟩
  cases op
  case box x=>cases d with
   |none=>exact hv
   |some d=>exact alc (op:=.box x) (d':=d) hv
  case alloc z=>cases d with
   |none=>exact hv
   |some d=>exact alc (op:=.alloc z) (d':=d) hv
  case bslice k m z ps=>cases d with
   |none=>exact hv
   |some d=>exact alc (op:=.bslice k m z ps) (d':=d) hv
  case mk k y z n=>cases d with
   |none=>exact hv
   |some d=>exact alc (op:=.mk k y z n) (d':=d) hv
  case call f args bor =>
   simp only[bK,aCA] at hv⊢;split at hv
   ·split at hv
    ·obtain⟨h1,r,hout,fz,h2,h3,h4,h5⟩:=hv;exact⟨h1,r,hout,fz,h2,h3,h4,h5,rA _ _ _ _⟩
    ·exact hv
   ·exact hv
  case store k A X =>
   simp only[bK] at hv⊢;refine⟨hv.1,?_⟩;have hv:=hv.2;split at hv
   ·split at hv
    ·exact⟨hv.1,hv.2,fun t _ hj=>hj⟩
    ·exact hv
   ·exact hv
  case clr k z X =>
   simp only[bK] at hv⊢;split at hv
   ·split at hv
    ·refine⟨hv.1,hv.2,fun t ht hj=>?_⟩;have:=rA d (.v (.tuple #[])) σ σ.h t ht hj;exact this
    ·exact hv
   ·exact hv
  case append k y A X =>
   cases d with
   |none=>exact hv
   | some d =>
    simp only[bK] at hv⊢;split at hv
    ·rename_i on l l' _ _;refine⟨hv.1,hv.2,fun t ht hj=>?_⟩
     have e:look ((d,AV.loc (.t d 0) 0 (l.length+l'.length))::(aQ on σ).s) t=look (aQ on σ).s t:=by
      simp only[look];rw[if_neg (by rintro rfl;exact ht rfl)]
     show look ((d,AV.loc (.t d 0) 0 (l.length+l'.length))::(aQ on σ).s) t=_
     rw[e];cases on with
     |none=>exact hj
     | some n =>
      simp only[aQ,o6];rw[mV (scr n) (by simp[scr,AV.has]),hj];simp[scr,AV.has]
    ·exact hv
  case appendC k y A X =>
   cases d with
   |none=>exact hv
   | some d =>
    simp only[bK] at hv⊢;split at hv
    ·rename_i on l l' _ _;refine⟨hv.1,hv.2,fun t ht hj=>?_⟩
     have e:look ((d,AV.sl k (l++l'))::(aQ on σ).s) t=look (aQ on σ).s t:=by
      simp only[look];rw[if_neg (by rintro rfl;exact ht rfl)]
     show look ((d,AV.sl k (l++l'))::(aQ on σ).s) t=_
     rw[e];cases on with
     |none=>exact hj
     | some n =>
      simp only[aQ,o6];rw[mV (scr n) (by simp[scr,AV.has]),hj];simp[scr,AV.has]
    ·exact hv
  case bsliceC k m z ps=>cases d with
   |none=>exact hv
   | some d =>
    simp only[bK] at hv⊢;obtain⟨x,b,⟨h1,rows,h2,h3,h4⟩,h5,_⟩:=xQ (op:=.bslice k m z ps) hv;exact h5 _ ⟨h1,rows,h2,h3,h4,rA (some d) _ _ _⟩
  all_goals simp[vJ] at hr
theorem aBQ {o:aJ}{σ:St}{K:St→Prop} (hv:vc P K [o] σ):vc P (fun σ'=>K σ'∧aDe o.dst σ σ') [o] σ:=by
 simp only[vc] at hv⊢;split at hv
 ·exact aBU hv
 ·split at hv
  ·rw[kD] at hv⊢;exact⟨fun h=>aBU (hv.1 h),fun h=>⟨hv.2 h,rA _ _ _ _⟩⟩
  ·exact⟨hv,rA _ _ _ _⟩
  ·exact hv
theorem aBT {d:Option Nat}{σ:St}{K K':St→Prop} (hK:∀σ,K σ→K' σ) {op:AOp} (hv:bK P d σ K op):bK P d σ K' op:=by
 by_cases hr:vJ op=true
 ·rw[zP hr] at hv⊢;obtain⟨x,h1,h2,_⟩:=aAd hv;exact h2 _ (hK _ h1)
 ·have alc:∀{op:AOp}{d':Nat},al (evO (look σ.s)) (aB σ.h) (.t d' 0) (fun v b=>(dE (.t d' 0) σ=true∧b.has (.t d' 0)=false)∧K ⟨(d',v)::σ.s,(.t d' 0,b)::σ.h⟩) op→
    al (evO (look σ.s)) (aB σ.h) (.t d' 0) (fun v b=>(dE (.t d' 0) σ=true∧b.has (.t d' 0)=false)∧K' ⟨(d',v)::σ.s,(.t d' 0,b)::σ.h⟩) op:=by
   intro op d' hv;obtain⟨x,b,⟨h1,h3⟩,h4,_⟩:=xQ hv;exact h4 _ ⟨h1,hK _ h3⟩
  cases op
  case box x=>cases d with
   |none=>exact hv
   |some d=>exact alc (op:=.box x) (d':=d) hv
  case alloc z=>cases d with
   |none=>exact hv
   |some d=>exact alc (op:=.alloc z) (d':=d) hv
  case bslice k m z ps=>cases d with
   |none=>exact hv
   |some d=>exact alc (op:=.bslice k m z ps) (d':=d) hv
  case mk k y z n=>cases d with
   |none=>exact hv
   |some d=>exact alc (op:=.mk k y z n) (d':=d) hv
  case call f args bor =>
   simp only[bK,aCA] at hv⊢;split at hv
   ·split at hv
    ·obtain⟨h1,r,hout,fz,h2,h3,h4,h5⟩:=hv;exact⟨h1,r,hout,fz,h2,h3,h4,hK _ h5⟩
    ·exact hv
   ·exact hv
  case store k A X =>
   simp only[bK] at hv⊢;refine⟨hv.1,?_⟩;have hv:=hv.2;split at hv
   ·split at hv
    ·exact⟨hv.1,hK _ hv.2⟩
    ·exact hv
   ·exact hv
  case clr k z X =>
   simp only[bK] at hv⊢;split at hv
   ·split at hv
    ·exact⟨hv.1,hK _ hv.2⟩
    ·exact hv
   ·exact hv
  case append k y A X =>
   cases d with
   |none=>exact hv
   | some d =>
    simp only[bK] at hv⊢;split at hv
    ·exact⟨hv.1,hK _ hv.2⟩
    ·exact hv
  case appendC k y A X =>
   cases d with
   |none=>exact hv
   | some d =>
    simp only[bK] at hv⊢;split at hv
    ·exact⟨hv.1,hK _ hv.2⟩
    ·exact hv
  case bsliceC k m z ps=>cases d with
   |none=>exact hv
   | some d =>
    simp only[bK] at hv⊢;obtain⟨x,b,⟨h1,rows,h2,h3,h4⟩,h5,_⟩:=xQ (op:=.bslice k m z ps) hv;exact h5 _ ⟨h1,rows,h2,h3,hK _ h4⟩
  all_goals simp[vJ] at hr
theorem aBP {o:aJ}{σ:St}{K K':St→Prop} (hK:∀σ,K σ→K' σ) (hv:vc P K [o] σ):vc P K' [o] σ:=by
 simp only[vc] at hv⊢;split at hv
 ·exact aBT hK hv
 ·split at hv
  ·rw[kD] at hv⊢;exact⟨fun h=>aBT hK (hv.1 h),fun h=>hK _ (hv.2 h)⟩
  ·exact hK _ hv
  ·exact hv
theorem aJ5 {o:aJ}{r:List aJ}{σ:St}{K:St→Prop}:vc P K (o::r) σ↔vc P (vc P K r) [o] σ:=Iff.rfl
theorem aH5 {K:St→Prop}:∀(ops:List aJ) (σ:St),vc P K ops σ→vcE P (fun f=>∃σ':St,σ'.f=f∧K σ') ops σ.f
 | [],σ,hv=>⟨σ,rfl,hv⟩
 | o::r,σ,hv=>by
  have ih:=aH5 (K:=K) r;simp only[vcE];split
  ·rename_i hf;simp only[eT,Bool.and_eq_true,Bool.or_eq_true] at hf
   have run:bK P o.dst σ (vc P K r) o.op→∃δ,Eff P o.dst o.op σ.f δ∧vcE P (fun f=>∃σ':St,σ'.f=f∧K σ') r (app o.dst δ σ.f):=fun hs=>by
    obtain⟨δ,h1,σ',h2,h3⟩:=aBj hf.1 hf.2 hs;exact⟨δ,h1,by rw[←h2];exact ih σ' h3⟩
   have skip:vc P K r ⟨put o.dst (.v (.tuple #[])) σ.s,σ.h⟩→∃δ,Eff P o.dst aGq σ.f δ∧vcE P (fun f=>∃σ':St,σ'.f=f∧K σ') r (app o.dst δ σ.f):=fun hs=>by
    obtain⟨δ,h1,σ',h2,h3⟩:=aBj (P:=P) (d:=o.dst) (σ:=σ) (K:=vc P K r) (op:=aGq) rfl (.inl rfl) hs;exact⟨δ,h1,by rw[←h2];exact ih σ' h3⟩
   simp only[vc] at hv;split at hv
   ·rename_i hg;obtain⟨δ,h1,h2⟩:=run hv;exact⟨δ,⟨true,by simp only[runs,hg],h1⟩,h2⟩
   ·rename_i g want hg;split at hv
    ·rename_i b hb;by_cases hbw:b=want
     ·obtain⟨δ,h1,h2⟩:=run ((kD.1 hv).1 hbw);exact⟨δ,⟨true,by simp only[runs,hg];exact .inl ⟨b,hb,by simp[hbw]⟩,h1⟩,h2⟩
     ·have hn:b = !want:=aG5 hbw;obtain⟨δ,h1,h2⟩:=skip ((kD.1 hv).2 hn);exact⟨δ,⟨false,by simp only[runs,hg];exact .inl ⟨b,hb,by simp[hbw]⟩,h1⟩,h2⟩
    ·rename_i cs hb;obtain⟨δ,h1,h2⟩:=skip hv;exact⟨δ,⟨false,by unfold runs;rw[hg];exact .inr ⟨⟨cs,hb⟩,rfl⟩,h1⟩,h2⟩
    ·exact hv.elim
  ·refine⟨σ,rfl,aBP (fun σ' h=>⟨ih σ' h.1,h.2⟩) (aBQ (aJ5.1 hv))⟩
theorem aH6 {o:aJ}{σ:St}{δ:Dl} (hc:Canon σ) (he:xS P o σ.f δ):vc P (fun σ'=>σ'.f=app o.dst δ σ.f) [o] σ:=by
 obtain⟨b,h1,h2⟩:=he
 have skip:b=false→(⟨put o.dst (.v (.tuple #[])) σ.s,σ.h⟩:St).f=app o.dst δ σ.f:=by
  rintro rfl;exact wF hc h2
 simp only[vc];unfold runs at h1;split
 ·rename_i hg;rw[hg] at h1;simp only at h1;subst h1;exact wF hc h2
 ·rename_i g want hg;rw[hg] at h1;rcases h1 with⟨c,e,rfl⟩|⟨⟨cs,e⟩,hb⟩
  ·simp only[show look σ.s g=_ from e];by_cases hcw:c=want
   ·subst hcw;refine kD.2 ⟨fun _=>?_,fun hn=>by cases c<;>simp at hn⟩;have:aBr (c==c) o=o.op:=by simp[aBr]
    unfold EffS at h2;rw[this] at h2;exact wF hc h2
   ·exact kD.2 ⟨fun h=>absurd h hcw,fun _=>skip (by simp[hcw])⟩
  ·simp only[show look σ.s g=_ from e];exact skip hb
theorem aGC {ops:Array Oper}{Q:Exit→Act→World→Prop}{K:St→Prop}{i:Nat}{o:Oper}{ao:aJ} (ho:ops[i]? = some o) (hc:r9 P C.nt ops o=some ao.bare) {σ:St} (hv:vc P K [ao] σ) (hok:OK C σ.f a w S ρ κ) :
  wpOp P ops Q i (dF C K) a w:=by
 obtain⟨h1,h2,h3,h4⟩:=lY hc;have go:bK P ao.dst σ K ao.op→o.wp P a w (dF C K) Q:=fun hst=>uY (P:=P) h1 hok h3 (by rw[h2];exact hst);unfold wpOp;rw[ho];simp only[vc] at hv;rcases h4 with⟨g1,g2⟩|⟨j,want,t,g1,g2,g3⟩
 ·rw[g2] at hv;have:Region.wanted o (yielded ops a.tmps)=true:=by simp[Region.wanted,g1]
  simp only[this,if_true];exact .inl (go hv)
 ·rw[g2] at hv;simp only at hv;split at hv
  ·rename_i b hb;have hw:=xV hok g1 g3 hb;simp only[hw];by_cases hbw:b=want
   ·simp only[hbw,beq_self_eq_true,if_true];exact .inl (go ((kD.1 hv).1 hbw))
   ·have:(b==want)=false:=by simpa using hbw
    simp only[this,Bool.false_eq_true,if_false];have hn:b = !want:=aG5 hbw;refine⟨_,S,ρ,κ,(kD.1 hv).2 hn,?_⟩;have:=hok.put (x:=.v undef) (v:=undef) (.clo (.v _)) h3;rw[h2] at this⊢;simpa[St.f,kK,undef] using this
  ·rename_i cs hb;have hw:=xU hok g1 g3 hb;simp only[hw,Bool.false_eq_true,if_false];refine⟨_,S,ρ,κ,hv,?_⟩;have:=hok.put (x:=.v undef) (v:=undef) (.clo (.v _)) h3;rw[h2] at this⊢;simpa[St.f,kK,undef] using this
  ·exact hv.elim
theorem aGk {ops:Array Oper}{K:Act→World→Prop}{i:Nat} (h:wpOp P ops (fun _ _ _=>False) i K a w):∃a' w',K a' w':=by
 unfold wpOp at h;split at h
 ·exact⟨_,_,h⟩
 ·split at h
  ·rcases h with h|⟨_,_,_,h⟩
   ·rename_i o _ _;unfold Oper.wp at h;generalize(execOp a.eval o).run P w=r at h;cases r with
    | ok n w' =>
     cases n<;>simp only[Oper.upon] at h
     case enter f args =>
      obtain⟨e,w'',fr,h,_⟩:=h [];cases e with
      |returned v=>exact⟨_,_,h⟩
      |panicked ch=>exact h.elim
      |outgrown=>obtain⟨_,_,h⟩:=h;exact h.elim
     case row row args =>
      obtain⟨v,w'',h,_⟩:=h (Frame.enter P 0 #[] .normal) [];exact⟨_,_,h⟩
     all_goals exact⟨_,_,h⟩
    |halt x w'=>cases x<;>simp only[Oper.upon] at h
   ·exact h.elim
  ·exact⟨_,_,h⟩
end
end Go.Vs
