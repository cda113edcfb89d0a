/- Regions whose order is open. -/
import Derived.Test.YtfoddghhlagenaaGreatDoorVsS
set_option linter.all false
set_option maxHeartbeats 8000000
namespace Go.Vs
section
variable [Envs]
variable {N:Name->Prop}{h h':Name->Option Blk}{ev ev':Operand->AV}
theorem aCE (ha:Agr N h h') {k:Nat}{x:AV} (ho:Off N x):kG k h x=kG k h' x:=by
 cases x<;>try rfl
 case v x=>unfold kG;split<;>first|rfl|simp_all
 case loc n off len =>
  simp only[kG]
  cases hx:h n with
  |none=>rw[ha.none ho.loc hx]
  | some b =>
   obtain⟨b',hb',e⟩:=ha.some ho.loc hx
   all_goals grind [rC]
theorem aF1 (ha:Agr N h h') {op:AOp}{K:AV->Prop} (he:∀o,o∈aI op->ev o=ev' o∧Off N (ev o)) (hk:rd ev h K op):rd ev' h' K op:=by
 cases op
 case mv x=>simpa only[rd,(he x (by simp[aI])).1] using hk
 case pick c a b =>
  simp only[rd] at hk⊢
  all_goals grind [aI]
 case load g k a =>
  have⟨e1,e2⟩:=he a (by simp[aI])
  simp only[rd,←e1] at hk⊢
  split at hk
  .exact hk
  .rename_i n e c hx
   rw[hx] at e2
   split at hk
   .rename_i b hb
    obtain⟨b',hb',hf⟩:=ha.some e2.ptr hb
    simp only[hb',aFg hf]
    exact hk
   .exact hk.elim
  .exact hk.elim
 case fieldAddr off x =>
  have⟨e1,e2⟩:=he x (by simp[aI])
  simp only[rd,←e1] at hk⊢
  split at hk
  .rename_i n e c hx
   rw[hx] at e2
   split at hk
   .rename_i b hb
    obtain⟨b',hb',hf⟩:=ha.some e2.ptr hb
    simp only[hb']
    exact hk
   .exact hk.elim
  .exact hk
  .exact hk.elim
 case loadV g k a =>
  have⟨e1,e2⟩:=he a (by simp[aI])
  simp only[rd,←e1] at hk⊢
  split at hk
  .rename_i n e c hx
   rw[hx] at e2
   split at hk
   .rename_i cs z hb
    obtain⟨b',hb',hf⟩:=ha.some e2.ptr hb
    obtain⟨z',rfl⟩:=wL hf
    simp only[hb']
    have er:(Blk.var cs z').row e=(Blk.var cs z).row e:=by cases e<;>rfl
    rw[er]
    exact hk
   .exact hk.elim
  .exact hk.elim
 case fieldV off x =>
  have⟨e1,e2⟩:=he x (by simp[aI])
  simp only[rd,←e1] at hk⊢
  split at hk
  .rename_i n e c hx
   rw[hx] at e2
   split at hk
   .rename_i cs z hb
    obtain⟨b',hb',hf⟩:=ha.some e2.ptr hb
    all_goals grind [wL]
   .exact hk.elim
  .exact hk.elim
 case field g off k x=>simpa only[rd,(he x (by simp[aI])).1] using hk
 case idxSl k x i =>
  have⟨e1,e2⟩:=he x (by simp[aI])
  have⟨e3,_⟩:=he i (by simp[aI])
  simp only[rd,←e1,←e3] at hk⊢
  split at hk
  .exact hk
  .rename_i n off len kk i' hx hi
   rw[hx] at e2
   split at hk
   .rename_i k' l z hb
    obtain⟨b',hb',hf⟩:=ha.some e2.loc hb
    all_goals grind [rC]
   .exact hk.elim
  .exact hk.elim
 case idxArr n k x i =>
  have⟨e1,e2⟩:=he x (by simp[aI])
  have⟨e3,_⟩:=he i (by simp[aI])
  simp only[rd,←e1,←e3] at hk⊢
  split at hk
  .exact hk
  .rename_i m e c kk i' hx hi
   rw[hx] at e2
   split at hk
   .rename_i b hb
    obtain⟨b',hb',hf⟩:=ha.some e2.ptr hb
    simp only[hb']
    exact hk
   .exact hk.elim
  .exact hk.elim
 case idxAgg g n k x i=>simpa only[rd,(he x (by simp[aI])).1,(he i (by simp[aI])).1] using hk
 case idxStr x i=>simpa only[rd,(he x (by simp[aI])).1,(he i (by simp[aI])).1] using hk
 case bin o x y=>simpa only[rd,(he x (by simp[aI])).1,(he y (by simp[aI])).1] using hk
 case binS o x y=>simpa only[rd,(he x (by simp[aI])).1,(he y (by simp[aI])).1] using hk
 case binB o x y=>simpa only[rd,(he x (by simp[aI])).1,(he y (by simp[aI])).1] using hk
 case un o x=>simpa only[rd,(he x (by simp[aI])).1] using hk
 case conv k x=>simpa only[rd,(he x (by simp[aI])).1] using hk
 case len x =>
  have⟨e1,e2⟩:=he x (by simp[aI])
  simp only[rd,←e1] at hk⊢
  split at hk
  .exact hk
  .rename_i n off len hx
   rw[hx] at e2
   split at hk
   .rename_i k' l z hb
    obtain⟨b',hb',hf⟩:=ha.some e2.loc hb
    all_goals grind [rC]
   .exact hk.elim
  .exact hk
  .exact hk.elim
 case lenS x=>simpa only[rd,(he x (by simp[aI])).1] using hk
 case lenC n=>exact hk
 case slc k x lo hi =>
  have⟨e1,e2⟩:=he x (by simp[aI])
  have e3:lo.map ev=lo.map ev':=by
   cases lo with
   |none=>rfl
   |some o=>simp[(he o (by simp[aI])).1]
  have e4:hi.map ev=hi.map ev':=by
   cases hi with
   |none=>rfl
   |some o=>simp[(he o (by simp[aI])).1]
  simp only[rd,←e1,←e3,←e4] at hk⊢
  split at hk
  .exact hk
  .rename_i n off len hx
   rw[hx] at e2
   split at hk
   .rename_i k' l z hb
    obtain⟨b',hb',hf⟩:=ha.some e2.loc hb
    all_goals grind [rC]
   .exact hk.elim
  .exact hk.elim
 case sstr x lo hi =>
  have⟨e1,e2⟩:=he x (by simp[aI])
  have e3:lo.map ev=lo.map ev':=by
   cases lo with
   |none=>rfl
   |some o=>simp[(he o (by simp[aI])).1]
  have e4:hi.map ev=hi.map ev':=by
   cases hi with
   |none=>rfl
   |some o=>simp[(he o (by simp[aI])).1]
  simpa only[rd,←e1,←e3,←e4] using hk
 case nilc x =>
  have⟨e1,e2⟩:=he x (by simp[aI])
  simp only[rd,←e1] at hk⊢
  split at hk
  .exact hk
  .rename_i n e c hx
   rw[hx] at e2
   split at hk
   .rename_i b hb
    obtain⟨b',hb',hf⟩:=ha.some e2.ptr hb
    simp only[hb']
    exact hk
   .exact hk.elim
  .exact hk
  .exact hk.elim
 case extract x i=>simpa only[rd,(he x (by simp[aI])).1] using hk
 case build z ps =>
  simp only[rd] at hk⊢
  all_goals grind [rW,aI]
 case mkfn f cs =>
  simp only[rd] at hk⊢
  all_goals grind [List.map_congr_left,aI]
 case mm mx x y=>simpa only[rd,(he x (by simp[aI])).1,(he y (by simp[aI])).1] using hk
 case b2s x =>
  have⟨e1,e2⟩:=he x (by simp[aI])
  simp only[rd,←e1,←aCE ha e2] at hk⊢
  exact hk
 case eqA neg ks x y=>simpa only[rd,(he x (by simp[aI])).1,(he y (by simp[aI])).1] using hk
 case idxB x y=>simpa only[rd,(he x (by simp[aI])).1,(he y (by simp[aI])).1] using hk
 all_goals exact hk.elim
theorem aBH {op:BinOp}{k k':IntKind}{a b:Int}{K:AV->Prop} (hk:aA9 op k k' a b K):∃x:Value,K (.v x)∧∀K':AV->Prop,K' (.v x)->aA9 op k k' a b K':=by
 cases op<;>simp only[aA9] at hk⊢<;> exact⟨_,hk.2,λ_ hx=>⟨hk.1,hx⟩⟩
theorem aAp {op:BinOp}{a b:ByteArray}{K:AV->Prop} (hk:vE op a b K):∃x:Value,K (.v x)∧∀K':AV->Prop,K' (.v x)->vE op a b K':=by
 grind [vE,BinOp]
theorem yR {op:BinOp}{a b:Bool}{K:AV->Prop} (hk:rG op a b K):∃x:Value,K (.v x)∧∀K':AV->Prop,K' (.v x)->rG op a b K':=by
 grind [rG,BinOp]
inductive Nm:(Name->Prop)->AV->Prop
 |junk (p:Name->Prop):Nm p .junk
 |v (p:Name->Prop) (x:Value):Nm p (.v x)
 |sl (p:Name->Prop) (k:Nat) (l:List (List AV)) (hl:∀r,r∈l->∀x,x∈r->Nm (λ_=>False) x):Nm p (.sl k l)
 |ro (p:Name->Prop) (c:List AV) (hc:∀x,x∈c->Nm (λ_=>False) x):Nm p (.ro c)
 |loc (p:Name->Prop) (n:Name) (off len:Nat) (hn:p n):Nm p (.loc n off len)
 |ptr (p:Name->Prop) (n:Name) (e c:Nat) (hn:p n):Nm p (.ptr n e c)
 |fn (p:Name->Prop) (f:FuncId) (c:List AV) (hc:∀x,x∈c->Nm p x):Nm p (.fn f c)
 |agg (p:Name->Prop) (c:List AV) (hc:∀x,x∈c->Nm p x):Nm p (.agg c)
 |tup (p:Name->Prop) (c:List AV) (hc:∀x,x∈c->Nm p x):Nm p (.tup c)
def NmL (p:Name->Prop) (c:List AV):Prop:=∀x,x∈c->Nm p x
def NmB (p:Name->Prop):Blk->Prop
 |.var c _=>NmL p c
 |.arr _ l _=>∀r,r∈l->NmL (λ_=>False) r
theorem Nm.mono {p q:Name->Prop}{x:AV} (hx:Nm p x) (hpq:∀n,p n->q n):Nm q x:=by
 induction hx with
 |junk=>exact .junk _
 |v=>exact .v _ _
 |sl _ k l hl _=>exact .sl _ k l hl
 |ro _ c hc _=>exact .ro _ c hc
 |loc _ n off len hn=>exact .loc _ n off len (hpq n hn)
 |ptr _ n e c hn=>exact .ptr _ n e c (hpq n hn)
 |fn _ f c hc ih=>exact .fn _ f c λx hx=>ih x hx hpq
 |agg _ c hc ih=>exact .agg _ c λx hx=>ih x hx hpq
 |tup _ c hc ih=>exact .tup _ c λx hx=>ih x hx hpq
theorem Nm.off {p:Name->Prop}{x:AV} (hx:Nm p x) (hp:∀n,p n->¬N n):Off N x:=by
 induction hx with
 |junk=>exact Off.junk
 |v=>exact Off.v _
 |sl=>exact Off.sl _ _
 |ro=>exact Off.ro _
 |loc _ n off len hn=>exact Off.mk_loc (hp n hn)
 |ptr _ n e c hn=>exact Off.mk_ptr (hp n hn)
 |fn _ f c hc ih=>exact Off.mk_fn (bU.of_mem λx hx=>ih x hx hp)
 |agg _ c hc ih=>exact Off.mk_agg (bU.of_mem λx hx=>ih x hx hp)
 |tup _ c hc ih=>exact Off.mk_tup (bU.of_mem λx hx=>ih x hx hp)
theorem Nm.of_off {p:Name->Prop}{x:AV} (hx:Nm p x) (ho:Off N x):Nm (λn=>¬N n) x:=by
 induction hx with
 |junk=>exact .junk _
 |v=>exact .v _ _
 |sl _ k l hl _=>exact .sl _ k l hl
 |ro _ c hc _=>exact .ro _ c hc
 |loc _ n off len hn=>exact .loc _ n off len ho.loc
 |ptr _ n e c hn=>exact .ptr _ n e c ho.ptr
 |fn _ f c hc ih=>exact .fn _ f c λx hx=>ih x hx (ho.fn.mem x hx)
 |agg _ c hc ih=>exact .agg _ c λx hx=>ih x hx (ho.agg.mem x hx)
 |tup _ c hc ih=>exact .tup _ c λx hx=>ih x hx (ho.tup.mem x hx)
theorem Nm.getD {p:Name->Prop}{c:List AV} (hc:NmL p c) (j:Nat):Nm p (c.getD j .junk):=by
 grind [NmL,Nm]
theorem NmL.drop {p:Name->Prop}{c:List AV} (hc:NmL p c) (j:Nat):NmL p (c.drop j):=λx hx=>hc x (List.mem_of_mem_drop hx)
theorem NmL.take {p:Name->Prop}{c:List AV} (hc:NmL p c) (j:Nat):NmL p (c.take j):=λx hx=>hc x (List.mem_of_mem_take hx)
theorem NmL.mk {p:Name->Prop}{g:Bool}{c:List AV} (hc:NmL p c):Nm p (AV.mk g c):=by
 cases g
 .cases c with
  |nil=>exact .junk _
  |cons x r=>exact hc x (by simp)
 .exact .agg _ c hc
theorem NmL.closed {p:Name->Prop}{c:List AV} (hc:NmL (λ_=>False) c):NmL p c:=λx hx=>(hc x hx).mono λ_ h=>h.elim
theorem Nm.qA {p:Name->Prop}{c:List AV} (h:Nm p (.ro c)):NmL (λ_=>False) c:=by cases h;assumption
theorem Nm.p8 {p:Name->Prop}{k:Nat}{l:List (List AV)} (h:Nm p (.sl k l)):∀r,r∈l->NmL (λ_=>False) r:=by cases h;assumption
theorem Nm.bZ {p:Name->Prop}{n:Name}{e c:Nat} (h:Nm p (.ptr n e c)):p n:=by cases h;assumption
theorem Nm.d9 {p:Name->Prop}{n:Name}{e c:Nat} (h:Nm p (.loc n e c)):p n:=by cases h;assumption
theorem Nm.wJ {p:Name->Prop}{c:List AV} (h:Nm p (.tup c)):NmL p c:=by cases h;assumption
theorem NmB.row {p:Name->Prop}{b:Blk} (hb:NmB p b) (e:Nat):NmL p (b.row e):=by
 cases b with
 | var c z=>cases e with
  |zero=>exact hb
  |succ e=>intro x hx;simp[Blk.row] at hx
 | arr k l z =>
  intro x hx
  simp only[Blk.row] at hx
  rcases Nat.lt_or_ge e l.length with h|h
  .have:l.getD e []=l[e]:=by simp[List.getD,h]
   rw[this] at hx
   exact(hb _ (List.getElem_mem h) x hx).mono λ_ h=>h.elim
  all_goals grind
theorem aC5 {p:Name->Prop}{x:AV} (ho:Nm p x) {c:List AV} (hc:gM h x=some c):NmL p c:=by
 grind [gM,Nm,NmL]
theorem aDV {p:Name->Prop}:∀{xs cs:List AV}{o:Nat},NmL p xs->NmL p cs->NmL p (lay cs o xs)
 | [],_,_,_,hc=>hc
 | x::r,cs,o,hx,hc=>by
  rw[lay]
  refine aDV (λy hy=>hx y (by simp[hy])) λy hy=>?_
  all_goals grind [NmL]
theorem y9 {p:Name->Prop}:∀{ps:List (Nat×Nat×Operand)}{cs:List AV}{c:List AV},(∀q,q∈ps->Nm p (ev q.2.2))->NmL p cs->layAll ev h cs ps (λc'=>c'=c)->NmL p c
 | [],_,_,_,hc,hk=>by cases hk;exact hc
 | (o,n,x)::r,cs,K,he,hc,hk=>by
  simp only[layAll] at hk
  split at hk
  .rename_i c hcx
   exact y9 (λp hp=>he p (by simp[hp])) (aDV (aC5 (he (o,n,x) (by simp)) hcx) hc) hk.2
  .exact hk.elim
theorem wW {op:AOp}{K:AV->Prop} (hk:rd ev h K op):∃x,K x∧(∀K':AV->Prop,K' x->rd ev h K' op)∧
  ∀p:Name->Prop,(∀z ps,op=.build z ps->NmL p z)->(∀o,o∈aI op->Nm p (ev o))->(∀n b,p n->h n=some b->NmB p b)->Nm p x:=by
 cases op
 case mv x=>exact⟨_,hk,λ_ hx'=>hx',λp _ ho _=>ho x (by simp[aI])⟩
 case pick c a b =>
  simp only[rd] at hk⊢
  split at hk
  .rename_i t ht
   cases t
   .exact⟨_,hk.get.2 rfl,λ_ hx'=>Br.mk (λh=>(by cases h)) (λ_=>hx'),λp _ ho _=>ho b (by simp[aI])⟩
   .exact⟨_,hk.get.1 rfl,λ_ hx'=>Br.mk (λ_=>hx') (λh=>(by cases h)),λp _ ho _=>ho a (by simp[aI])⟩
  .exact hk.elim
 case load g k a =>
  simp only[rd] at hk⊢
  split at hk
  .rename_i c hx
   exact ⟨_,hk.2,λ_ hx'=>⟨hk.1,hx'⟩,λp _ ho _=>by
     have:=ho a (by simp[aI])
     rw[hx] at this
     exact NmL.mk (NmL.take (NmL.closed this.qA) _)⟩
  .rename_i n e c hx
   split at hk
   .rename_i b hb
    exact ⟨_,hk.2,λ_ hx'=>⟨hk.1,hx'⟩,λp _ ho hh=>by
      have:=ho a (by simp[aI])
      rw[hx] at this
      exact NmL.mk (NmL.take (NmL.drop ((hh n b this.bZ hb).row e) _) _)⟩
   .exact hk.elim
  .exact hk.elim
 case fieldAddr off x =>
  simp only[rd] at hk⊢
  all_goals grind [aI,Nm]
 case loadV g k a =>
  simp only[rd] at hk⊢
  split at hk
  .rename_i n e c hx
   split at hk
   .rename_i cs z hb
    exact ⟨_,hk.2,λ_ hx'=>⟨hk.1,hx'⟩,λp _ ho hh=>by
      have:=ho a (by simp[aI])
      rw[hx] at this
      exact NmL.mk (NmL.take (NmL.drop ((hh n _ this.bZ hb).row e) _) _)⟩
   .exact hk.elim
  .exact hk.elim
 case fieldV off x =>
  simp only[rd] at hk⊢
  all_goals grind [aI,Nm]
 case field g off k x =>
  simp only[rd] at hk⊢
  all_goals grind [aI,NmL.mk,NmL,Nm]
 case idxSl k x i =>
  simp only[rd] at hk⊢
  all_goals grind [aI,Nm]
 case idxArr n k x i =>
  simp only[rd] at hk⊢
  all_goals grind [aI,Nm]
 case idxAgg g n k x i =>
  simp only[rd] at hk⊢
  all_goals grind [aI,NmL.mk,NmL,Nm]
 case idxStr x i =>
  simp only[rd] at hk⊢
  all_goals grind [Nm]
 case bin o x y =>
  simp only[rd] at hk⊢
  all_goals grind [aBH,Nm]
 case binS o x y =>
  simp only[rd] at hk⊢
  all_goals grind [aAp,Nm]
 case binB o x y =>
  simp only[rd] at hk⊢
  all_goals grind [yR,Nm]
 case un o x =>
  simp only[rd] at hk⊢
  all_goals grind [Nm]
 case conv k x =>
  simp only[rd] at hk⊢
  all_goals grind [Nm]
 case len x =>
  simp only[rd] at hk⊢
  all_goals grind [Nm]
 case lenS x =>
  simp only[rd] at hk⊢
  all_goals grind [Nm]
 case lenC n=>exact⟨_,hk,λ_ hx'=>hx',λp _ _ _=>.v _ _⟩
 case slc k x lo hi =>
  simp only[rd] at hk⊢
  split at hk
  .rename_i k' l hx
   have fin:∀p:Name->Prop,(∀o,o∈aI (.slc k x lo hi)->Nm p (ev o))->∀a b,Nm p (.sl k ((l.take a).drop b)):=λp ho a b=>by
    have:=ho x (by simp[aI])
    rw[hx] at this
    exact .sl _ _ _ λr hr=>this.p8 r (List.mem_of_mem_take (List.mem_of_mem_drop hr))
   split at hk
   .exact⟨_,hk.2,λ_ hx'=>⟨hk.1,hx'⟩,λp _ ho _=>fin p ho _ _⟩
   .exact⟨_,hk.2,λ_ hx'=>⟨hk.1,hx'⟩,λp _ ho _=>fin p ho _ _⟩
   .exact⟨_,hk.2,λ_ hx'=>⟨hk.1,hx'⟩,λp _ ho _=>fin p ho _ _⟩
   .exact⟨_,hk.2,λ_ hx'=>⟨hk.1,hx'⟩,λp _ ho _=>fin p ho _ _⟩
   .exact hk.elim
  .rename_i n off len hx
   have fin:∀p:Name->Prop,(∀o,o∈aI (.slc k x lo hi)->Nm p (ev o))->∀a b,Nm p (.loc n a b):=λp ho a b=>by
    have:=ho x (by simp[aI])
    rw[hx] at this
    exact .loc _ _ _ _ this.d9
   split at hk
   .split at hk
    .exact⟨_,hk.2,λ_ hx'=>⟨hk.1,hx'⟩,λp _ ho _=>fin p ho _ _⟩
    .exact⟨_,hk.2,λ_ hx'=>⟨hk.1,hx'⟩,λp _ ho _=>fin p ho _ _⟩
    .exact⟨_,hk.2,λ_ hx'=>⟨hk.1,hx'⟩,λp _ ho _=>fin p ho _ _⟩
    .exact⟨_,hk.2,λ_ hx'=>⟨hk.1,hx'⟩,λp _ ho _=>fin p ho _ _⟩
    .exact hk.elim
   .exact hk.elim
  .exact hk.elim
 case sstr x lo hi =>
  simp only[rd] at hk⊢
  all_goals grind [Nm]
 case nilc x =>
  simp only[rd] at hk⊢
  all_goals grind [aI]
 case extract x i =>
  simp only[rd] at hk⊢
  all_goals grind [aI,Nm]
 case build z ps =>
  simp only[rd] at hk⊢
  obtain⟨c,h1,h2⟩:=oM hk
  refine⟨_,h1,?_,λp hz ho _=>?_⟩
  .exact λK' hx'=>pW (λc' hc'=>by rw[hc'];exact hx') h2
  .exact .agg _ _ (y9 (λq hq=>ho _ (by simp only[aI,List.mem_map];exact⟨q,hq,rfl⟩)) (hz z ps rfl) h2)
 case mkfn f cs =>
  simp only[rd] at hk⊢
  all_goals grind [aI,Nm]
 case mm mx x y =>
  simp only[rd] at hk⊢
  all_goals grind [Nm]
 case b2s x =>
  simp only[rd] at hk⊢
  all_goals grind [Nm]
 case idxB x y =>
  simp only[rd] at hk⊢
  all_goals grind [Nm]
 case eqA neg ks x y =>
  simp only[rd] at hk⊢
  all_goals grind [Nm]
 all_goals exact hk.elim
end
section
variable [Envs]
variable {P:Program}{C:Ctx}{a:Act}{w:World}{S:Nat->Prop}{ρ:Name->Option Nat}{κ:Name->Nat}
variable {N:Name->Prop}{h h':Name->Option Blk}{ev ev':Operand->AV}
theorem aGA {n:Name} (ha:Agr N h h') {op:AOp}{K:AV->Blk->Prop} (hz:∀z,op=.alloc z->bU N z) (hz2:∀k m z ps,op=.bslice k m z ps->bU N z) (hz3:∀k m z x,op=.mk k m z x->bU N z)
  (he:∀o,o∈aI op->ev o=ev' o∧Off N (ev o)) (hk:al ev h n K op):al ev' h' n K op:=by
 cases op
 all_goals try grind [aI,al,x8,mH,fM,AV]
 case bslice k m z ps =>
  simp only[al] at hk⊢
  rw[←vG (p:=mH h) λx hx=>xB ha ((hz2 k m z ps rfl).mem x hx)]
  all_goals grind [rW,aI]
 all_goals grind [aI,al,mH,fM,AV]
theorem qM {n:Name}{op:AOp}{K:AV->Blk->Prop} (hk:al ev h n K op):∃x b,K x b∧(∀K':AV->Blk->Prop,K' x b->al ev h n K' op)∧
  (∀N:Name->Prop,¬N n->Off N x)∧∀N:Name->Prop,(∀z,op=.alloc z->bU N z)->(∀o,o∈aI op->Off N (ev o))->yL N b:=by
 cases op
 case box x =>
  simp only[al] at hk⊢
  split at hk
  .rename_i c hc
   exact⟨_,_,hk,λ_ h=>h,λN hn=>Off.mk_ptr hn,λN _ ho m hm=>aBC (ho x (by simp[aI])) hc m hm⟩
  .exact hk.elim
 case alloc z =>
  simp only[al] at hk⊢
  exact⟨_,_,hk.2,λ_ h=>⟨hk.1,h⟩,λN hn=>Off.mk_ptr hn,λN hz _ m hm=>hz z rfl m hm⟩
 case bslice k m z ps =>
  simp only[al] at hk⊢
  obtain⟨c,⟨h1,h2⟩,h3⟩:=oM hk.2
  refine⟨_,_,h2,λK' h=>⟨hk.1,pW (λc' hc'=>?_) h3⟩,λN hn=>Off.mk_loc hn,λN _ _ m hm=>rfl⟩
  rw[hc'];exact⟨h1,h⟩
 case mk k y z x =>
  simp only[al] at hk⊢
  split at hk
  .exact⟨_,_,hk.2,λ_ h=>⟨hk.1,h⟩,λN hn=>Off.mk_loc hn,λN _ _ m hm=>rfl⟩
  .exact hk.elim
 all_goals exact hk.elim
theorem xG {f g:AV->Option (AV×List Name)}:∀{c:List AV},(∀x,x∈c->f x=g x)->bO f c=bO g c
 | [],_=>rfl
 |x::r,hh=>by simp only[bO,hh x (by simp),xG (c:=r) λy hy=>hh y (by simp[hy])]
theorem rV {f:AV->Option (AV×List Name)} (p:Name->Prop):∀{c c':List AV}{L:List Name},(∀x,x∈c->∀y L,f x=some (y,L)->∀n,n∈L->p n)->bO f c=some (c',L)->∀n,n∈L->p n
 | [],c',L,_,hm,n,hn=>by
  grind [bO]
 | x::r,c',L,hh,hm,n,hn=>by
  simp only[bO] at hm
  split at hm
  .rename_i y L1 ys L2 h1 h2
   simp only[Option.some.injEq,Prod.mk.injEq] at hm
   rw[←hm.2] at hn
   rcases List.mem_append.1 hn with hn|hn
   .grind
   .exact rV p (λz hz=>hh z (by simp[hz])) h2 n hn
  .cases hm
theorem aA6 (ha:Agr N h h') (hb:∀n b,¬N n->h n=some b->yL N b):∀(m:Nat) (c:Bool) (x:AV),Off N x->conv h m [] c x=conv h' m [] c x∧∀y L,conv h m [] c x=some (y,L)->∀n,n∈L->¬N n:=by
 intro m
 induction m with
 |zero=>intro c x _;exact⟨rfl,λy L h=>by simp[conv] at h⟩
 | succ m ih =>
  intro c x ho
  have lists:∀(c:Bool) (cs:List AV),bU N cs->bO (conv h m [] c) cs=bO (conv h' m [] c) cs∧∀ys L,bO (conv h m [] c) cs=some (ys,L)->∀n,n∈L->¬N n:=λc cs hcs =>
   ⟨xG λx hx=>(ih c x (hcs.mem x hx)).1,λys L hm=>rV (λn=>¬N n) (λx hx y L hc=>(ih c x (hcs.mem x hx)).2 y L hc) hm⟩
  cases x
  case junk=>exact⟨rfl,λy L h=>by simp only[conv] at h;split at h<;>simp at h;rw[h.2];simp⟩
  case v x=>exact⟨rfl,λy L h=>by simp only[conv,Option.some.injEq,Prod.mk.injEq] at h;rw[←h.2];simp⟩
  case sl k l=>exact⟨rfl,λy L h=>by simp only[conv,Option.some.injEq,Prod.mk.injEq] at h;rw[←h.2];simp⟩
  case ro c=>exact⟨rfl,λy L h=>by simp only[conv,Option.some.injEq,Prod.mk.injEq] at h;rw[←h.2];simp⟩
  case loc n off len =>
   simp only[conv,gB]
   cases hx:h n with
   |none=>rw[ha.none ho.loc hx];exact⟨rfl,λy L h=>by simp at h⟩
   | some b =>
    obtain⟨b',hb',e⟩:=ha.some ho.loc hx
    rw[hb']
    cases b with
    | var c z =>
     grind [wL]
    | arr k l z =>
     obtain⟨z',rfl⟩:=rC e
     refine⟨rfl,λy L h=>?_⟩
     simp only[Option.some.injEq,Prod.mk.injEq] at h
     rw[←h.2]
     intro n' hn'
     rw[List.mem_singleton.1 hn'];exact ho.loc
  case ptr n e o =>
   simp only[conv,gB]
   cases hx:h n with
   |none=>rw[ha.none ho.ptr hx];exact⟨rfl,λy L h=>by simp at h⟩
   | some b =>
    obtain⟨b',hb',e'⟩:=ha.some ho.ptr hx
    rw[hb']
    have hbo:=hb n b ho.ptr hx
    cases b with
    | var c z =>
     obtain⟨z',rfl⟩:=wL e'
     have hl:=lists true c hbo
     simp only[hl.1,true_and]
     intro y L h
     cases hm:bO (conv h' m [] true) c with
     |none=>rw[hm] at h;simp at h
     | some q =>
      rw[hm] at h
      simp only[Option.map_some,Option.some.injEq,Prod.mk.injEq] at h
      rw[←h.2]
      intro n' hn'
      rcases List.mem_cons.1 hn' with rfl|hn'
      .exact ho.ptr
      .grind
    | arr k l z =>
     obtain⟨z',rfl⟩:=rC e'
     refine⟨rfl,λy L h=>?_⟩
     simp only[Option.some.injEq,Prod.mk.injEq] at h
     rw[←h.2]
     intro n' hn'
     rw[List.mem_singleton.1 hn'];exact ho.ptr
  all_goals
   rename_i cs
   have hl:=lists c cs (by first|exact ho.fn|exact ho.agg|exact ho.tup)
   simp only[conv,hl.1,true_and]
   intro y L h
   cases hm:bO (conv h' m [] c) cs with
   |none=>rw[hm] at h;simp at h
   | some q =>
    grind
mutual
theorem aDw (φ:Name->Option Name) (n:Name) (hφ:∀m,φ m≠some n):∀x:AV,(rn φ x).has n=false
 |.v _=>rfl
 |.sl _ _=>rfl
 |.ro _=>rfl
 |.junk=>rfl
 | .loc m off len=>by
  grind [rn,AV.has]
 | .ptr m e c=>by
  grind [rn,AV.has]
 |.fn f c=>by simp only[rn,AV.has];exact tH φ n hφ c
 |.agg c=>by simp only[rn,AV.has];exact tH φ n hφ c
 |.tup c=>by simp only[rn,AV.has];exact tH φ n hφ c
theorem tH (φ:Name->Option Name) (n:Name) (hφ:∀m,φ m≠some n):∀c:List AV,iL n (rnL φ c)=false
 | []=>rfl
 |x::r=>by simp only[rnL,iL,aDw φ n hφ x,tH φ n hφ r,Bool.or_self]
end
end
section
variable [Envs]
variable {P:Program}{C:Ctx}{a:Act}{w:World}{S:Nat->Prop}{ρ:Name->Option Nat}{κ:Name->Nat}
structure Dl where
 v:AV
 nb:List (Name×Blk)
 fz:Bool
 L:List Name
 nn:Name->Prop
def app (d:Option Nat) (δ:Dl) (σ:FSt):FSt:=
 ⟨upd σ.s d δ.v,λm=>(aA δ.nb m).or ((σ.h m).map λb=>if δ.fz=true∧m∈δ.L then frz b else b)⟩
def isV:AV->Bool
 |.v _=>true
 |_=>false
def okZ:AOp->Bool
 |.build z _=>z.all isV
 |.alloc z=>z.all isV
 |.bslice _ _ z _=>z.all isV
 |.mk _ _ z _=>z.all isV
 |_=>true
def kU:AOp->Bool
 |.call _ _ bor=>bor.isEmpty
 |.store .. | .append .. | .appendC .. | .bsliceC .. | .clr ..=>false
 |op=>okZ op
theorem aFu {p:Name->Prop}{z:List AV} (h:z.all isV=true):NmL p z:=by
 intro x hx
 have:=List.all_eq_true.1 h x hx
 cases x<;>simp[isV] at this
 exact .v _ _
theorem aBb {N:Name->Prop}{z:List AV} (h:z.all isV=true):bU N z:=by
 grind [bU.of_mem,isV,Off.v,AV]
inductive Eff (P:Program) (d:Option Nat) (op:AOp) (σ:FSt):Dl->Prop
 | rd (v:AV) (h1:oO op=true) (h2:∀K:AV->Prop,K v->Vs.rd (evO σ.s) σ.h K op)
   (h3:∀p:Name->Prop,(∀o,o∈aI op->Nm p (evO σ.s o))->(∀n b,p n->σ.h n=some b->NmB p b)->Nm p v):Eff P d op σ ⟨v,[],false,[],λ_=>False⟩
 | al (d':Nat) (hd:d=some d') (v:AV) (b:Blk) (h1:∀K:AV->Blk->Prop,K v b->Vs.al (evO σ.s) σ.h (.t d' 0) K op) (hf:dU (.t d' 0) σ) (hn:b.has (.t d' 0)=false)
   (h2:∀N:Name->Prop,¬N (.t d' 0)->Off N v) (h3:∀N:Name->Prop,(∀o,o∈aI op->Off N (evO σ.s o))->yL N b):Eff P d op σ ⟨v,[(.t d' 0,b)],false,[],λn=>n=.t d' 0⟩
 | call (d':Nat) (hd:d=some d') (f:Operand) (args:List Operand) (hop:op=.call f args []) (g:FuncId) (caps:List AV) (hg:evO σ.s f=.fn g caps) (ys:List AV) (L:List Name)
   (hm:bO (conv σ.h 8 [] false) (args.map (evO σ.s)++caps)=some (ys,L)) (r:AV) (hout:List (Option Blk)) (fz:Bool) (hfn:Fn P g [] ys r hout)
   (hflat:fz=false->(L=[]∨(flat r=true∧∀b,some b∈hout->kV b))) (hfr:∀j,j<hout.length->dU (.t d' j) σ) :
   Eff P d op σ ⟨rn (phi [] d' hout.length) r,mJ (rnB (phi [] d' hout.length)) d' 0 0 hout,fz,L,λn=>∃j,j<hout.length∧n=.t d' j⟩
def Canon (σ:St):Prop:=(∀p,p∈σ.s->look σ.s p.1=p.2)∧∀p,p∈σ.h->aA σ.h p.1=some p.2
def xR:List (Nat×AV)->List (Nat×AV)
 | []=>[]
 |(i,x)::r=>(i,x)::(xR r).filter λp=>!decide (p.1=i)
def xS:List (Name×Blk)->List (Name×Blk)
 | []=>[]
 |(i,x)::r=>(i,x)::(xS r).filter λp=>!decide (p.1=i)
theorem mV (i:Nat):∀(s:List (Nat×AV)) (t:Nat),t≠i->look (s.filter λp=>!decide (p.1=i)) t=look s t
 | [],_,_=>rfl
 | (j,x)::r,t,ht=>by
  by_cases hj:j=i
  .simp only[List.filter_cons,hj,decide_true,Bool.not_true,Bool.false_eq_true,if_false,look,ht,mV i r t ht]
  .simp only[List.filter_cons,hj,decide_false,Bool.not_false,if_true,look,mV i r t ht]
theorem lD (i:Name):∀(s:List (Name×Blk)) (t:Name),t≠i->aA (s.filter λp=>!decide (p.1=i)) t=aA s t
 | [],_,_=>rfl
 | (j,x)::r,t,ht=>by
  by_cases hj:j=i
  .simp only[List.filter_cons,hj,decide_true,Bool.not_true,Bool.false_eq_true,if_false,aA,ht,lD i r t ht]
  .simp only[List.filter_cons,hj,decide_false,Bool.not_false,if_true,aA,lD i r t ht]
theorem u6:∀s:List (Nat×AV),look (xR s)=look s∧∀p,p∈xR s->look (xR s) p.1=p.2
 | []=>⟨rfl,by simp[xR]⟩
 | (i,x)::r=>by
  obtain⟨h1,h2⟩:=u6 r
  have e:look (xR ((i,x)::r))=look ((i,x)::r):=by
   funext t
   simp only[xR,look]
   split
   .rfl
   .rename_i ht
    rw[mV i _ _ ht,h1]
  refine⟨e,λp hp=>?_⟩
  simp only[xR,List.mem_cons,List.mem_filter,Bool.not_eq_true',decide_eq_false_iff_not] at hp
  rcases hp with rfl|⟨hp,hne⟩
  .simp[xR,look]
  .simp only[xR,look,hne,if_false]
   rw[mV i _ _ hne]
   exact h2 p hp
theorem u7:∀s:List (Name×Blk),aA (xS s)=aA s∧∀p,p∈xS s->aA (xS s) p.1=some p.2
 | []=>⟨rfl,by simp[xS]⟩
 | (i,x)::r=>by
  obtain⟨h1,h2⟩:=u7 r
  have e:aA (xS ((i,x)::r))=aA ((i,x)::r):=by
   funext t
   simp only[xS,aA]
   split
   .rfl
   .rename_i ht
    rw[lD i _ _ ht,h1]
  refine⟨e,λp hp=>?_⟩
  simp only[xS,List.mem_cons,List.mem_filter,Bool.not_eq_true',decide_eq_false_iff_not] at hp
  rcases hp with rfl|⟨hp,hne⟩
  .simp[xS,aA]
  .simp only[xS,aA,hne,if_false]
   rw[lD i _ _ hne]
   exact h2 p hp
def canon (σ:St):St:=⟨xR σ.s,xS σ.h⟩
theorem iF (σ:St):(canon σ).f=σ.f:=by simp only[canon,St.f,(u6 σ.s).1,(u7 σ.h).1]
theorem uH (σ:St):Canon (canon σ):=⟨(u6 σ.s).2,(u7 σ.h).2⟩
theorem rD {n:Name}{σ:St} (hc:Canon σ) (hn:n.isT=true) (hf:dU n σ.f):bG n σ=true:=by
 simp only[bG,Bool.and_eq_true,List.all_eq_true,Bool.not_eq_true',decide_eq_false_iff_not]
 refine⟨⟨hn,λp hp=>?_⟩,λp hp=>⟨?_,?_⟩⟩
 .rw[←hc.1 p hp];exact hf.2.1 p.1
 .intro e
  have h1:=hf.1.1
  have h2:=hc.2 p hp
  rw[e] at h2
  simp only[St.f] at h1
  rw[h1] at h2;cases h2
 .exact hf.2.2 p.1 p.2 (hc.2 p hp)
theorem sN {op:AOp} (h:oO op=true) {d:Option Nat}{σ:St}{K:St->Prop}:aV P d σ K op↔rd (evO (look σ.s)) (aA σ.h) (λv=>K ⟨put d v σ.s,σ.h⟩) op:=by
 grind [oO,AOp,aV]
theorem aBJ {d:Option Nat}{σ:St}{v:AV}{nn:Name->Prop}:(St.mk (put d v σ.s) σ.h).f=app d ⟨v,[],false,[],nn⟩ σ.f:=by
 simp only[St.f,app,fU,aA,Option.none_or,Bool.false_eq_true,false_and,if_false]
 congr 1
 funext m
 cases aA σ.h m<;>rfl
theorem aBK {d:Nat}{σ:St}{v:AV}{b:Blk}{n:Name}{nn:Name->Prop}:(St.mk ((d,v)::σ.s) ((n,b)::σ.h)).f=app (some d) ⟨v,[(n,b)],false,[],nn⟩ σ.f:=by
 simp only[St.f,app,Bool.false_eq_true,false_and,if_false]
 congr 1
 funext m
 simp only[aA]
 by_cases hm:m=n
 .simp[hm]
 .simp only[hm,if_false,Option.none_or]
  cases aA σ.h m<;>rfl
theorem aBa {d:Nat}{σ:St}{v:AV}{hout:List (Option Blk)}{fz:Bool}{L:List Name}{nn:Name->Prop} :
  (St.mk ((d,v)::σ.s) (sH σ.h [] d hout fz L)).f=app (some d) ⟨v,mJ (rnB (phi [] d hout.length)) d 0 0 hout,fz,L,nn⟩ σ.f:=by
 simp only[St.f,app]
 congr 1
 funext m
 unfold sH
 rw[uE]
 simp only[List.length_nil]
 congr 1
 rw[rY _ (λm b b' h=>by simp[aBc,gB] at h)]
 cases aA σ.h m with
 |none=>rfl
 |some b=>simp[aBc,gB]
theorem vT {d:Option Nat}{σ:St}{K:St->Prop}{op:AOp} (hfree:kU op=true) (hd:oO op=true∨d.isSome=true) (hv:aV P d σ K op) :
  ∃δ,Eff P d op σ.f δ∧∃σ':St,σ'.f=app d δ σ.f∧K σ':=by
 by_cases hr:oO op=true
 .rw[sN hr] at hv
  obtain⟨x,h1,h2,h3⟩:=wW hv
  refine⟨_,.rd x hr h2 (λp ho hb=>h3 p (λz ps e=>?_) ho hb),_,aBJ,h1⟩
  all_goals grind [aFu,kU,okZ]
 .have hd:=hd.resolve_left hr
  obtain⟨d',rfl⟩:=Option.isSome_iff_exists.1 hd
  have alc:∀{op:AOp},kU op=true->al (evO (look σ.s)) (aA σ.h) (.t d' 0) (λv b=>(bG (.t d' 0) σ=true∧b.has (.t d' 0)=false)∧K ⟨(d',v)::σ.s,(.t d' 0,b)::σ.h⟩) op->
    ∃δ,Eff P (some d') op σ.f δ∧∃σ':St,σ'.f=app (some d') δ σ.f∧K σ':=by
   intro op hfree hv
   obtain⟨x,b,⟨⟨h1,h2⟩,h3⟩,h4,h5,h6⟩:=qM hv
   refine⟨_,.al d' rfl x b h4 (bS h1) h2 h5 (λN ho=>h6 N (λz e=>?_) ho),_,aBK,h3⟩
   subst e
   exact aBb (by simpa[kU,okZ] using hfree)
  cases op
  case box x=>exact alc hfree hv
  case alloc z=>exact alc hfree hv
  case bslice k m z ps=>exact alc hfree hv
  case mk k y z n=>exact alc hfree hv
  case call f args bor =>
   simp only[kU,List.isEmpty_iff] at hfree
   subst hfree
   simp only[aV,yB] at hv
   split at hv
   .rename_i g caps hg
    have hB:yF σ.h (args.map (evO (look σ.s))) []=[]:=rfl
    rw[hB] at hv
    split at hv
    .rename_i ys L1 hin L2 h1 h2
     simp only[oD,Option.some.injEq,Prod.mk.injEq] at h2
     obtain⟨rfl,rfl⟩:=h2
     obtain⟨_,r,hout,fz,hfn,hflat,hfr,hK⟩:=hv
     simp only[List.append_nil,Option.getD_some,List.length_nil] at hflat hfr hK
     have hfr':∀j,j<hout.length->dU (.t d' j) σ.f:=by
      grind [iC,bS]
     exact⟨_,.call d' rfl f args rfl g caps hg ys L1 h1 r hout fz hfn hflat hfr',_,aBa,hK⟩
    .exact hv.elim
   .exact hv.elim
  all_goals grind [kU,oO]
theorem pK {d:Option Nat}{σ:St}{op:AOp}{δ:Dl} (hc:Canon σ) (he:Eff P d op σ.f δ):aV P d σ (fun σ'=>σ'.f=app d δ σ.f) op:=by
 cases he with
 | rd v h1 h2 h3 =>
  rw[sN h1]
  exact h2 _ aBJ
 | al d' hd v b h1 hf hn h2 h3 =>
  subst hd
  have hfl:=rD hc rfl hf
  have:=h1 (λv b=>(bG (.t d' 0) σ=true∧b.has (.t d' 0)=false)∧(St.mk ((d',v)::σ.s) ((.t d' 0,b)::σ.h)).f=app (some d') ⟨v,[(.t d' 0,b)],false,[],λn=>n=.t d' 0⟩ σ.f) ⟨⟨hfl,hn⟩,aBK⟩
  cases op<;>first
   |exact this.elim
   | (simp only[aV]
      exact h1 _ ⟨⟨hfl,hn⟩,aBK⟩)
 | call d' hd f args hop g caps hg ys L hm r hout fz hfn hflat hfr =>
  subst hd;subst hop
  simp only[aV,yB]
  have hg':evO (look σ.s) f=.fn g caps:=hg
  have hm':bO (conv (aA σ.h) 8 [] false) (args.map (evO (look σ.s))++caps)=some (ys,L):=hm
  have hB:yF σ.h (args.map (evO (look σ.s))) []=[]:=rfl
  rw[hg',hB]
  simp only[hm',oD]
  refine⟨rfl,r,hout,fz,hfn,by simpa using hflat,?_,?_⟩
  .simp only[iC,List.all_eq_true,List.mem_range]
   intro j hj
   simp only[Option.getD_some,rD hc rfl (hfr j hj),Bool.or_true]
  .simp only[List.append_nil,Option.getD_some,List.length_nil]
   exact aBa
end
section
variable [Envs]
variable {P:Program}{C:Ctx}{a:Act}{w:World}{S:Nat->Prop}{ρ:Name->Option Nat}{κ:Name->Nat}
structure WF (σ:FSt):Prop where
 s:∀t,Nm (λ_=>True) (σ.s t)
 h:∀n b,σ.h n=some b->NmB (λ_=>True) b
theorem aFE {x:AV}{v:Value} (h:RC S w x v):Nm (λ_=>False) x:=by
 have key:∀(c:List AV),(∀j,j<c.length->Nm (λ_=>False) (c.getD j .junk))->∀y,y∈c->Nm (λ_=>False) y:=by
  intro c hc y hy
  obtain⟨j,hj,rfl⟩:=List.mem_iff_getElem.1 hy
  have:=hc j hj
  simpa[List.getD,hj] using this
 induction h with
 |v x=>exact .v _ _
 | sl k l base cap x off xs hb hc ho hr hk hcap ih =>
  refine .sl _ _ _ λr hr' y hy=>?_
  obtain⟨i,hi,rfl⟩:=List.mem_iff_getElem.1 hr'
  have e:l.getD i []=l[i]:=by simp[List.getD,hi]
  refine key _ (λj hj=>?_) y hy
  all_goals grind
 |ro c x off xs hx hc ho hr ih=>exact .ro _ _ (key c ih)
 |fn f c vs hl hr ih=>exact .fn _ _ _ (key c ih)
 |agg c vs hl hr ih=>exact .agg _ _ (key c ih)
 |tup c vs hl hr ih=>exact .tup _ _ (key c ih)
theorem aFB {h:Name->Option Blk}{x:AV}{v:Value} (hx:RV S w ρ κ h x v):Nm (λ_=>True) x:=by
 have key:∀(c:List AV),(∀j,j<c.length->Nm (λ_=>True) (c.getD j .junk))->∀y,y∈c->Nm (λ_=>True) y:=by
  intro c hc y hy
  obtain⟨j,hj,rfl⟩:=List.mem_iff_getElem.1 hy
  have:=hc j hj
  simpa[List.getD,hj] using this
 induction hx with
 |junk v=>exact .junk _
 |clo hx=>exact(aFE hx).mono λ_ h=>h.elim
 |loc n off len v hv=>exact .loc _ _ _ _ trivial
 |ptr n e c v hv=>exact .ptr _ _ _ _ trivial
 |fn f c vs hl hr ih=>exact .fn _ _ _ (key c ih)
 |agg c vs hl hr ih=>exact .agg _ _ (key c ih)
 |tup c vs hl hr ih=>exact .tup _ _ (key c ih)
theorem OK.wf {σ:FSt} (hok:OK C σ a w S ρ κ):WF σ:=by
 refine⟨λt=>aFB (hok.slots t),λn b hb=>?_⟩
 have hk:=hok.hok.blk n b hb
 cases b with
 | var c z =>
  obtain⟨x,cs,T,fr,_,_,_,_,_,_,_,h7⟩:=hk
  intro y hy
  all_goals grind [List.mem_iff_getElem.1,aFB]
 | arr k l z =>
  obtain⟨h0,⟨_,rfl⟩|⟨x,cs,T,fr,_,_,_,_,_,_,_,h7⟩⟩:=hk
  .intro r hr;cases hr
  .intro r hr y hy
   all_goals grind [List.mem_iff_getElem.1,aFE]
theorem Nm.and {p q:Name->Prop}{x:AV} (hx:Nm p x) (ho:Off (λn=>¬q n) x):Nm (λn=>p n∧q n) x:=by
 induction hx with
 |junk=>exact .junk _
 |v=>exact .v _ _
 |sl _ k l hl _=>exact .sl _ k l hl
 |ro _ c hc _=>exact .ro _ c hc
 |loc _ n off len hn=>exact .loc _ n off len ⟨hn,Classical.not_not.1 ho.loc⟩
 |ptr _ n e c hn=>exact .ptr _ n e c ⟨hn,Classical.not_not.1 ho.ptr⟩
 |fn _ f c hc ih=>exact .fn _ f c λx hx=>ih x hx (ho.fn.mem x hx)
 |agg _ c hc ih=>exact .agg _ c λx hx=>ih x hx (ho.agg.mem x hx)
 |tup _ c hc ih=>exact .tup _ c λx hx=>ih x hx (ho.tup.mem x hx)
theorem yL.mem {N:Name->Prop}{c:List AV}{z:Bool} (ho:yL N (.var c z)):bU N c:=λn hn=>ho n hn
theorem NmB.and {p q:Name->Prop}{b:Blk} (hx:NmB p b) (ho:yL (λn=>¬q n) b):NmB (λn=>p n∧q n) b:=by
 cases b with
 |var c z=>exact λx hx'=>(hx x hx').and (ho.mem.mem x hx')
 |arr k l z=>exact hx
theorem NmB.frz {p:Name->Prop}{b b':Blk} (hb:frz b'=frz b) (hx:NmB p b):NmB p b':=by
 grind [Vs.frz,NmB,Blk]
theorem Eff.move {d:Option Nat}{op:AOp}{σ σ':FSt}{δ:Dl}{N:Name->Prop} (he:Eff P d op σ δ) (hfree:kU op=true)
  (ho:∀o,o∈aI op->evO σ.s o=evO σ'.s o∧Off N (evO σ.s o)) (ha:Agr N σ.h σ'.h) (hb:∀n b,¬N n->σ.h n=some b->yL N b)
  (hf:∀n,δ.nn n->dU n σ'):Eff P d op σ' δ:=by
 cases he with
 | rd v h1 h2 h3 =>
  refine .rd v h1 (λK hK=>aF1 ha ho (h2 K hK)) λp hp hh=>?_
  have e:(λn=>¬¬N n)=N:=funext λn=>propext Classical.not_not
  have:=h3 (λn=>p n∧¬N n) (λo hm=>?_) (λn b hn hx=>?_)
  .exact this.mono λn h=>h.1
  .obtain⟨e1,e2⟩:=ho o hm
   refine Nm.and ?_ (by rw[e];exact e2)
   rw[e1];exact hp o hm
  .obtain⟨b',h4,h5⟩:=ha.some hn.2 hx
   refine NmB.and (NmB.frz h5.symm (hh n b' hn.1 h4)) (by rw[e];exact hb n b hn.2 hx)
 | al d' hd v b h1 hf' hn h2 h3 =>
  refine .al d' hd v b (λK hK=>aGA ha ?_ ?_ ?_ ho (h1 K hK)) (hf _ rfl) hn h2 λN' hN'=>h3 N' λo hm=>by rw[(ho o hm).1];exact hN' o hm
  all_goals grind [aBb,kU,okZ]
 | call d' hd f args hop g caps hg ys L hm r hout fz hfn hflat hfr =>
  subst hop
  have⟨ef,of⟩:=ho f (by simp[aI])
  rw[hg] at of
  have hargs:args.map (evO σ.s)=args.map (evO σ'.s):=List.map_congr_left λo hm=>(ho o (by simp[aI,hm])).1
  refine .call d' hd f args rfl g caps (by rw[←ef];exact hg) ys L ?_ r hout fz hfn hflat λj hj=>?_
  .rw[←hargs,←xG (f:=conv σ.h 8 [] false) λx hx=>?_]
   .exact hm
   .refine(aA6 ha hb 8 false x ?_).1
    rcases List.mem_append.1 hx with hx|hx
    .grind [aI]
    .exact of.fn.mem x hx
  .exact hf _ ⟨j,hj,rfl⟩
theorem Eff.new {d:Option Nat}{op:AOp}{σ:FSt}{δ:Dl} (he:Eff P d op σ δ):(∀n,δ.nn n->∃d' j,d=some d'∧n=.t d' j∧dU n σ)∧∀n b,aA δ.nb n=some b->δ.nn n:=by
 cases he with
 |rd v h1 h2 h3=>exact⟨λn hn=>hn.elim,λn b hb=>by simp[aA] at hb⟩
 | al d' hd v b h1 hf' hn h2 h3 =>
  grind [aA]
 | call d' hd f args hop g caps hg ys L hm r hout fz hfn hflat hfr =>
  refine⟨λn ⟨j,hj,e⟩=>⟨d',j,hd,e,by rw[e];exact hfr j hj⟩,λn b hb=>?_⟩
  rw[rZ] at hb
  cases n with
  |b j=>simp[pU] at hb
  | t d'' j =>
   grind [pU]
theorem aET {N:Name->Prop}{φ:Name->Option Name} (hφ:∀n m,N n->φ m≠some n) (b:Blk):yL N (rnB φ b):=by
 cases b with
 |var c z=>exact λn hn=>tH φ n (λm=>hφ n m hn) c
 |arr k l z=>exact λn hn=>rfl
theorem qZ {g:Blk->Blk}{d nB:Nat}:∀{l:List (Option Blk)}{i:Nat}{n:Name}{b:Blk},(n,b)∈mJ g d nB i l->∃b',b=g b'
 | [],_,_,_,h=>by simp[mJ] at h
 |none::r,i,n,b,h=>qZ (l:=r) (i:=i+1) (by simpa[mJ] using h)
 | some x::r,i,n,b,h=>by
  simp only[mJ] at h
  split at h
  .rcases List.mem_cons.1 h with h|h
   .grind
   .exact qZ h
  .exact qZ h
theorem Eff.off {d:Option Nat}{op:AOp}{σ:FSt}{δ:Dl}{N:Name->Prop} (he:Eff P d op σ δ) (hN:∀n,δ.nn n->¬N n) (hown:∀d' j,d=some d'->¬N (.t d' j)) (hs:WF σ)
  (ho:∀o,o∈aI op->Off N (evO σ.s o)) (hb:∀n b,¬N n->σ.h n=some b->yL N b) :
  Off N δ.v∧(∀n b,aA δ.nb n=some b->yL N b)∧∀n,n∈δ.L->¬N n:=by
 have ev_nm:∀o,Nm (λ_=>True) (evO σ.s o):=by
  intro o
  cases o with
  |tmp t=>exact hs.s t
  | const v =>
   simp only[evO]
   cases v<;>first
    |exact .v _ _
    | (simp only[AV.ofValue]
       refine .agg _ _ λx hx=>?_
       obtain⟨y,_,rfl⟩:=List.mem_map.1 hx
       exact .v _ _)
  |global g=>exact .junk _
  |func f=>exact .fn _ _ _ (by simp)
 cases he with
 | rd v h1 h2 h3 =>
  refine⟨?_,λn b hb=>by simp[aA] at hb,by simp⟩
  have:=h3 (λn=>¬N n) (λo hm=>(ev_nm o).of_off (ho o hm)) λn b hn hx=>?_
  .exact this.off λn hn=>hn
  .have e:(λn=>¬¬N n)=N:=funext λn=>propext Classical.not_not
   have:=NmB.and (q:=λn=>¬N n) (hs.h n b hx) (by rw[e];exact hb n b hn hx)
   all_goals grind
 | al d' hd v b h1 hf' hn h2 h3 =>
  grind [aA]
 | call d' hd f args hop g caps hg ys L hm r hout fz hfn hflat hfr =>
  subst hop
  have hφ:∀n m,N n->phi [] d' hout.length m≠some n:=by
   grind [phi,Name]
  refine⟨λn hn=>aDw _ n (λm=>hφ n m hn) r,λn b hx=>?_,λn hn=>?_⟩
  .obtain⟨b',rfl⟩:=qZ (nX _ _ _ hx)
   exact aET hφ b'
  .have of:=ho f (by simp[aI])
   rw[hg] at of
   refine rV (λn=>¬N n) (λx hx y L' hc=>?_) hm n hn
   refine(aA6 (h':=σ.h) (λ_ _=>rfl) hb 8 false x ?_).2 y L' hc
   rcases List.mem_append.1 hx with hx|hx
   .grind [aI]
   .exact of.fn.mem x hx
theorem rO (d:Option Nat) (δ:Dl) (σ:FSt) (n:Name):(app d δ σ).h n=(aA δ.nb n).or ((σ.h n).map λb=>if δ.fz=true∧n∈δ.L then frz b else b):=rfl
theorem aGj (b:Blk) (p:Prop) [Decidable p]:frz (if p then frz b else b)=frz b:=by
 split
 .cases b<;>rfl
 .rfl
theorem aCs {d:Option Nat}{δ:Dl}{σ:FSt} (hn:∀n b,aA δ.nb n=some b->δ.nn n):Agr δ.nn σ.h (app d δ σ).h:=by
 intro n h
 rw[rO]
 cases hx:aA δ.nb n with
 |some b=>exact absurd (hn n b hx) h
 | none =>
  rw[Option.none_or]
  cases σ.h n with
  |none=>rfl
  |some b=>simp only[Option.map_some,aGj]
theorem kW {d:Option Nat}{δ:Dl}{σ:FSt}{t:Nat} (h:d≠some t):(app d δ σ).s t=σ.s t:=by
 cases d with
 |none=>rfl
 | some d =>
  grind [app,upd]
theorem kM {d:Nat}{δ:Dl}{σ:FSt}:(app (some d) δ σ).s d=δ.v:=by simp[app,upd]
theorem wN {d:Option Nat}{δ:Dl}{σ:FSt}{o:Operand} (h:∀t,d=some t->o≠.tmp t):evO (app d δ σ).s o=evO σ.s o:=by
 grind [evO,kW,Operand]
theorem dU.off {n:Name}{σ:FSt} (h:dU n σ) (o:Operand):(evO σ.s o).has n=false:=by
 cases o with
 |tmp t=>exact h.2.1 t
 | const v =>
  simp only[evO]
  cases v<;>first
   |rfl
   | (simp only[AV.ofValue,AV.has]
      have:bU (λm=>m=n) (List.map (λx=>AV.v x) (Array.toList ‹_›)):=bU.of_mem λx hx=>by
        grind [Off.v]
      exact this n rfl)
 |global g=>rfl
 |func f=>rfl
theorem aBu (b:Blk) (p:Prop) [Decidable p] (n:Name):(if p then frz b else b).has n=b.has n:=by
 grind [aFh,Blk,frz]
theorem aEk {dx dy:Option Nat}{x y:AOp}{σ:FSt}{δx δy:Dl} (hx:Eff P dx x σ δx) (hy:Eff P dy y (app dx δx σ) δy) (hs:WF σ) (fx:kU x=true) (fy:kU y=true)
  (a1:∀t,dx=some t->∀o,o∈aI y->o≠.tmp t) (a2:∀t,dy=some t->∀o,o∈aI x->o≠.tmp t) (a3:∀t,dx=some t->dy≠some t)
  (j1:∀t,dx=some t->σ.s t=.junk) (j2:∀t,dy=some t->σ.s t=.junk) :
  Eff P dy y σ δy∧Eff P dx x (app dy δy σ) δx∧app dx δx (app dy δy σ)=app dy δy (app dx δx σ):=by
 obtain⟨nx,bx⟩:=hx.new
 obtain⟨ny,by'⟩:=hy.new
 have hxy:∀n,δx.nn n->¬δy.nn n:=by
  grind
 have sx:∀o,Off δx.nn (evO σ.s o):=λo n hn=>by obtain⟨_,_,_,_,hf⟩:=nx n hn;exact hf.off o
 have hbx:∀n b,σ.h n=some b->yL δx.nn b:=λn b hb m hm=>by obtain⟨_,_,_,_,hf⟩:=nx m hm;exact hf.2.2 n b hb
 have hnone:∀n,δx.nn n->σ.h n=none:=λn hn=>by obtain⟨_,_,_,_,hf⟩:=nx n hn;exact hf.1.1
 have agx:=aCs (d:=dx) (σ:=σ) bx
 have fy':∀n,δy.nn n->dU n σ:=by
  intro n hn
  obtain⟨d2,i2,e2,rfl,hf⟩:=ny n hn
  have hnx:¬δx.nn (.t d2 i2):=λh=>hxy _ h hn
  refine⟨⟨?_,hf.1.2⟩,λt=>?_,λm b hb=>?_⟩
  .have:=hf.1.1
   rw[rO] at this
   cases hσ:σ.h (.t d2 i2) with
   |none=>rfl
   |some b=>rw[hσ] at this;simp at this
  .by_cases ht:dx=some t
   .rw[j1 t ht];rfl
   .have:=hf.2.1 t
    rwa [kW ht] at this
  .have h1:¬δx.nn m:=λh=>by rw[hnone m h] at hb;cases hb
   have h2:aA δx.nb m=none:=by
    cases h:aA δx.nb m with
    |none=>rfl
    |some b=>exact absurd (bx m b h) h1
   have:=hf.2.2 m (if δx.fz=true∧m∈δx.L then frz b else b) (by rw[rO,h2,hb];rfl)
   rwa [aBu] at this
 have hy1:Eff P dy y σ δy:=by
  refine hy.move (N:=δx.nn) fy (λo ho=>?_) agx.symm (λn b hn hb=>?_) fy'
  .have e:=wN (δ:=δx) (σ:=σ) (λt ht=>a1 t ht o ho)
   exact⟨e,by rw[e];exact sx o⟩
  .rw[rO] at hb
   have h2:aA δx.nb n=none:=by
    cases h:aA δx.nb n with
    |none=>rfl
    |some b=>exact absurd (bx n b h) hn
   rw[h2,Option.none_or] at hb
   cases hσ:σ.h n with
   |none=>rw[hσ] at hb;cases hb
   | some b0 =>
    rw[hσ] at hb
    obtain rfl:=Option.some.inj hb
    intro m hm
    rw[aBu]
    exact hbx n b0 hσ m hm
 obtain ⟨ov,ob,oL⟩:=hy1.off (N:=δx.nn) (λn hn h=>hxy n h hn) (λd' j hd' h=>by
   obtain⟨d1,i1,e1,e2,_⟩:=nx _ h
   simp only[Name.t.injEq] at e2
   exact a3 d1 e1 (by rw[hd',e2.1])) hs (λo _=>sx o) (λn b _ hb=>hbx n b hb)
 have agy:=aCs (d:=dy) (σ:=σ) by'
 have sy:∀o,Off δy.nn (evO σ.s o):=λo n hn=>(fy' n hn).off o
 have hx1:Eff P dx x (app dy δy σ) δx:=by
  refine hx.move (N:=δy.nn) fx (λo ho=>⟨(wN (δ:=δy) (σ:=σ) (λt ht=>a2 t ht o ho)).symm,sy o⟩) agy (λn b _ hb m hm=>(fy' m hm).2.2 n b hb) λn hn=>?_
  obtain⟨d1,i1,e1,rfl,hf⟩:=nx n hn
  have hny:=hxy _ hn
  refine⟨⟨?_,hf.1.2⟩,λt=>?_,λm b hb=>?_⟩
  .rw[rO,hf.1.1]
   cases h:aA δy.nb (.t d1 i1) with
   |none=>rfl
   |some b=>exact absurd (by' _ b h) hny
  .by_cases ht:dy=some t
   .subst ht;rw[kM];exact ov _ hn
   .rw[kW ht];exact hf.2.1 t
  .rw[rO] at hb
   cases h:aA δy.nb m with
   | some b' =>
    rw[h] at hb
    obtain rfl:=Option.some.inj hb
    exact ob m _ h _ hn
   | none =>
    rw[h,Option.none_or] at hb
    cases hσ:σ.h m with
    |none=>rw[hσ] at hb;cases hb
    | some b0 =>
     rw[hσ] at hb
     obtain rfl:=Option.some.inj hb
     rw[aBu];exact hbx m b0 hσ _ hn
 refine⟨hy1,hx1,?_⟩
 obtain ⟨_,_,oLx⟩:=hx.off (N:=δy.nn) (λn hn=>hxy n hn) (λd' j hd' h=>by
   obtain⟨d1,i1,e1,e2,_⟩:=ny _ h
   simp only[Name.t.injEq] at e2
   exact a3 d' hd' (by rw[e1,e2.1])) hs (λo _=>sy o) (λn b _ hb m hm=>(fy' m hm).2.2 n b hb)
 have e1:(app dx δx (app dy δy σ)).s=(app dy δy (app dx δx σ)).s:=by
  funext t
  by_cases h1:dx=some t
  .grind [kM,kW]
  .by_cases h2:dy=some t
   all_goals grind [kW,kM]
 have e2:(app dx δx (app dy δy σ)).h=(app dy δy (app dx δx σ)).h:=by
  funext n
  simp only[rO]
  cases h1:aA δx.nb n with
  | some b1 =>
   have hn:=bx n b1 h1
   have h2:aA δy.nb n=none:=by
    cases h:aA δy.nb n with
    |none=>rfl
    |some b=>exact absurd (by' n b h) (hxy n hn)
   all_goals grind
  | none =>
   cases h2:aA δy.nb n with
   | some b2 =>
    grind
   | none =>
    simp only[Option.none_or]
    cases σ.h n with
    |none=>rfl
    | some b =>
     grind
 all_goals grind [app]
end
section
variable [Envs]
variable {P:Program}{C:Ctx}{a:Act}{w:World}{S:Nat->Prop}{ρ:Name->Option Nat}{κ:Name->Nat}
theorem aCq {b c:Bool} (h:b≠c):b = !c:=by cases b<;>cases c<;>simp at h<;>rfl
def dB (o:aH):Bool:=kU o.op&&(oO o.op||o.dst.isSome)
def aBR:AOp:=.mv (.const (.tuple #[]))
def xA (b:Bool) (o:aH):AOp:=if b then o.op else aBR
def EffS (P:Program) (b:Bool) (o:aH) (σ:FSt) (δ:Dl):Prop:=Eff P o.dst (xA b o) σ δ
def runs (o:aH) (σ:FSt) (b:Bool):Prop:=
 match o.guard with
 |none=>b=true
 |some (g,want)=>(∃c,σ.s g=.v (.bool c)∧b=(c==want))∨((∃cs,σ.s g=.v (.tuple cs))∧b=false)
def qO (P:Program) (o:aH) (σ:FSt) (δ:Dl):Prop:=∃b,runs o σ b∧EffS P b o σ δ
def xM (d:Option Nat) (σ σ':St):Prop:=∀t,d≠some t->look σ.s t=.junk->look σ'.s t=.junk
def vcE (P:Program) (K:FSt->Prop):List aH->FSt->Prop
 | [],σ=>K σ
 | o::r,σ=>if dB o=true then ∃δ,qO P o σ δ∧vcE P K r (app o.dst δ σ)
  else ∃σl:St,σl.f=σ∧vc P (fun σ'=>vcE P K r σ'.f∧xM o.dst σl σ') [o] σl
theorem nQ (d:Option Nat) (x:AV) (σ:St) (h:List (Name×Blk)):xM d σ ⟨put d x σ.s,h⟩:=by
 intro t ht hj
 show look (put d x σ.s) t=_
 rw[fU]
 cases d with
 |none=>exact hj
 | some d =>
  grind [upd]
theorem aBj {d:Option Nat}{σ:St}{K:St->Prop}{op:AOp} (hv:aV P d σ K op):aV P d σ (fun σ'=>K σ'∧xM d σ σ') op:=by
 by_cases hr:oO op=true
 .grind [sN,nQ]
 .have alc:∀{op:AOp}{d':Nat},al (evO (look σ.s)) (aA σ.h) (.t d' 0) (λv b=>(bG (.t d' 0) σ=true∧b.has (.t d' 0)=false)∧K ⟨(d',v)::σ.s,(.t d' 0,b)::σ.h⟩) op->
    al (evO (look σ.s)) (aA σ.h) (.t d' 0) (λv b=>(bG (.t d' 0) σ=true∧b.has (.t d' 0)=false)∧K ⟨(d',v)::σ.s,(.t d' 0,b)::σ.h⟩∧xM (some d') σ ⟨(d',v)::σ.s,(.t d' 0,b)::σ.h⟩) op:=by
   intro op d' hv
   obtain⟨x,b,⟨h1,h3⟩,h4,_⟩:=qM hv
   exact h4 _ ⟨h1,h3,nQ (some d') _ _ _⟩
  cases op
  case box x=>cases d with
   |none=>exact hv
   |some d=>exact alc (op:=.box x) (d':=d) hv
  case alloc z=>cases d with
   |none=>exact hv
   |some d=>exact alc (op:=.alloc z) (d':=d) hv
  case bslice k m z ps=>cases d with
   |none=>exact hv
   |some d=>exact alc (op:=.bslice k m z ps) (d':=d) hv
  case mk k y z n=>cases d with
   |none=>exact hv
   |some d=>exact alc (op:=.mk k y z n) (d':=d) hv
  case call f args bor =>
   simp only[aV,yB] at hv⊢
   split at hv
   .split at hv
    .obtain⟨h1,r,hout,fz,h2,h3,h4,h5⟩:=hv
     exact⟨h1,r,hout,fz,h2,h3,h4,h5,nQ _ _ _ _⟩
    .exact hv
   .exact hv
  all_goals try grind [aV,xM,nQ]
  case append k y A X =>
   cases d with
   |none=>exact hv
   | some d =>
    simp only[aV] at hv⊢
    split at hv
    .rename_i on l l' _ _
     refine⟨hv.1,hv.2,λt ht hj=>?_⟩
     have e:look ((d,AV.loc (.t d 0) 0 (l.length+l'.length))::(aK on σ).s) t=look (aK on σ).s t:=by
      grind [look]
     show look ((d,AV.loc (.t d 0) 0 (l.length+l'.length))::(aK on σ).s) t=_
     rw[e]
     cases on with
     |none=>exact hj
     | some n =>
      simp only[aK,dA]
      rw[jB (scr n) (by simp[scr,AV.has]),hj]
      simp[scr,AV.has]
    .exact hv
  case appendC k y A X =>
   cases d with
   |none=>exact hv
   | some d =>
    simp only[aV] at hv⊢
    split at hv
    .rename_i on l l' _ _
     refine⟨hv.1,hv.2,λt ht hj=>?_⟩
     have e:look ((d,AV.sl k (l++l'))::(aK on σ).s) t=look (aK on σ).s t:=by
      grind [look]
     show look ((d,AV.sl k (l++l'))::(aK on σ).s) t=_
     rw[e]
     cases on with
     |none=>exact hj
     | some n =>
      simp only[aK,dA]
      rw[jB (scr n) (by simp[scr,AV.has]),hj]
      simp[scr,AV.has]
    .exact hv
  case bsliceC k m z ps=>cases d with
   |none=>exact hv
   | some d =>
    simp only[aV] at hv⊢
    obtain⟨x,b,⟨h1,rows,h2,h3,h4⟩,h5,_⟩:=qM (op:=.bslice k m z ps) hv
    exact h5 _ ⟨h1,rows,h2,h3,h4,nQ (some d) _ _ _⟩
  all_goals simp[oO] at hr
theorem wR {o:aH}{σ:St}{K:St->Prop} (hv:vc P K [o] σ):vc P (fun σ'=>K σ'∧xM o.dst σ σ') [o] σ:=by
 simp only[vc] at hv⊢
 all_goals grind [aBj,gX,nQ,St]
theorem aBi {d:Option Nat}{σ:St}{K K':St->Prop} (hK:∀σ,K σ->K' σ) {op:AOp} (hv:aV P d σ K op):aV P d σ K' op:=by
 by_cases hr:oO op=true
 .grind [sN,wW]
 .have alc:∀{op:AOp}{d':Nat},al (evO (look σ.s)) (aA σ.h) (.t d' 0) (λv b=>(bG (.t d' 0) σ=true∧b.has (.t d' 0)=false)∧K ⟨(d',v)::σ.s,(.t d' 0,b)::σ.h⟩) op->
    al (evO (look σ.s)) (aA σ.h) (.t d' 0) (λv b=>(bG (.t d' 0) σ=true∧b.has (.t d' 0)=false)∧K' ⟨(d',v)::σ.s,(.t d' 0,b)::σ.h⟩) op:=by
   intro op d' hv
   obtain⟨x,b,⟨h1,h3⟩,h4,_⟩:=qM hv
   exact h4 _ ⟨h1,hK _ h3⟩
  cases op
  case box x=>cases d with
   |none=>exact hv
   |some d=>exact alc (op:=.box x) (d':=d) hv
  case alloc z=>cases d with
   |none=>exact hv
   |some d=>exact alc (op:=.alloc z) (d':=d) hv
  case bslice k m z ps=>cases d with
   |none=>exact hv
   |some d=>exact alc (op:=.bslice k m z ps) (d':=d) hv
  case mk k y z n=>cases d with
   |none=>exact hv
   |some d=>exact alc (op:=.mk k y z n) (d':=d) hv
  case call f args bor =>
   simp only[aV,yB] at hv⊢
   split at hv
   .split at hv
    .obtain⟨h1,r,hout,fz,h2,h3,h4,h5⟩:=hv
     exact⟨h1,r,hout,fz,h2,h3,h4,hK _ h5⟩
    .exact hv
   .exact hv
  all_goals try grind [aV]
  case append k y A X =>
   cases d with
   |none=>exact hv
   | some d =>
    grind [aV]
  case appendC k y A X =>
   cases d with
   |none=>exact hv
   | some d =>
    grind [aV]
  case bsliceC k m z ps=>cases d with
   |none=>exact hv
   | some d =>
    grind [aV,qM]
  all_goals simp[oO] at hr
theorem sJ {o:aH}{σ:St}{K K':St->Prop} (hK:∀σ,K σ->K' σ) (hv:vc P K [o] σ):vc P K' [o] σ:=by
 simp only[vc] at hv⊢
 split at hv
 all_goals grind [aBi,gX]
theorem zP {o:aH}{r:List aH}{σ:St}{K:St->Prop}:vc P K (o::r) σ↔vc P (vc P K r) [o] σ:=Iff.rfl
theorem aDh {K:St->Prop}:∀(ops:List aH) (σ:St),vc P K ops σ->vcE P (λf=>∃σ':St,σ'.f=f∧K σ') ops σ.f
 | [],σ,hv=>⟨σ,rfl,hv⟩
 | o::r,σ,hv=>by
  have ih:=aDh (K:=K) r
  simp only[vcE]
  split
  .rename_i hf
   simp only[dB,Bool.and_eq_true,Bool.or_eq_true] at hf
   have run:aV P o.dst σ (vc P K r) o.op->∃δ,Eff P o.dst o.op σ.f δ∧vcE P (λf=>∃σ':St,σ'.f=f∧K σ') r (app o.dst δ σ.f):=λhs=>by
    obtain⟨δ,h1,σ',h2,h3⟩:=vT hf.1 hf.2 hs
    exact⟨δ,h1,by rw[←h2];exact ih σ' h3⟩
   have skip:vc P K r ⟨put o.dst (.v (.tuple #[])) σ.s,σ.h⟩->∃δ,Eff P o.dst aBR σ.f δ∧vcE P (λf=>∃σ':St,σ'.f=f∧K σ') r (app o.dst δ σ.f):=λhs=>by
    obtain⟨δ,h1,σ',h2,h3⟩:=vT (P:=P) (d:=o.dst) (σ:=σ) (K:=vc P K r) (op:=aBR) rfl (.inl rfl) hs
    exact⟨δ,h1,by rw[←h2];exact ih σ' h3⟩
   simp only[vc] at hv
   split at hv
   .rename_i hg
    obtain⟨δ,h1,h2⟩:=run hv
    exact⟨δ,⟨true,by simp only[runs,hg],h1⟩,h2⟩
   .rename_i g want hg
    split at hv
    .rename_i b hb
     by_cases hbw:b=want
     .obtain⟨δ,h1,h2⟩:=run ((gX.1 hv).1 hbw)
      exact⟨δ,⟨true,by simp only[runs,hg];exact .inl ⟨b,hb,by simp[hbw]⟩,h1⟩,h2⟩
     .have hn:b = !want:=aCq hbw
      obtain⟨δ,h1,h2⟩:=skip ((gX.1 hv).2 hn)
      exact⟨δ,⟨false,by simp only[runs,hg];exact .inl ⟨b,hb,by simp[hbw]⟩,h1⟩,h2⟩
    .rename_i cs hb
     obtain⟨δ,h1,h2⟩:=skip hv
     exact⟨δ,⟨false,by unfold runs;rw[hg];exact .inr ⟨⟨cs,hb⟩,rfl⟩,h1⟩,h2⟩
    .exact hv.elim
  .refine⟨σ,rfl,sJ (fun σ' h=>⟨ih σ' h.1,h.2⟩) (wR (zP.1 hv))⟩
theorem aDi {o:aH}{σ:St}{δ:Dl} (hc:Canon σ) (he:qO P o σ.f δ):vc P (fun σ'=>σ'.f=app o.dst δ σ.f) [o] σ:=by
 obtain⟨b,h1,h2⟩:=he
 have skip:b=false->(⟨put o.dst (.v (.tuple #[])) σ.s,σ.h⟩:St).f=app o.dst δ σ.f:=by
  rintro rfl
  exact pK hc h2
 simp only[vc]
 unfold runs at h1
 split
 .rename_i hg
  rw[hg] at h1
  simp only at h1
  subst h1
  exact pK hc h2
 .rename_i g want hg
  rw[hg] at h1
  rcases h1 with⟨c,e,rfl⟩|⟨⟨cs,e⟩,hb⟩
  .simp only[show look σ.s g=_ from e]
   all_goals grind [gX.2,xA,EffS,pK]
  .simp only[show look σ.s g=_ from e]
   exact skip hb
theorem aB3 {ops:Array Oper}{Q:Exit->Act->World->Prop}{K:St->Prop}{i:Nat}{o:Oper}{ao:aH} (ho:ops[i]? = some o) (hc:gY P C.nt ops o=some ao.bare) {σ:St} (hv:vc P K [ao] σ) (hok:OK C σ.f a w S ρ κ) :
  wpOp P ops Q i (bK C K) a w:=by
 obtain⟨h1,h2,h3,h4⟩:=dR hc
 have go:aV P ao.dst σ K ao.op->o.wp P a w (bK C K) Q:=λhst=>oG (P:=P) h1 hok h3 (by rw[h2];exact hst)
 unfold wpOp
 rw[ho]
 simp only[vc] at hv
 rcases h4 with⟨g1,g2⟩|⟨j,want,t,g1,g2,g3⟩
 .grind [Region.wanted]
 .rw[g2] at hv
  simp only at hv
  split at hv
  .rename_i b hb
   have hw:=qQ hok g1 g3 hb
   simp only[hw]
   by_cases hbw:b=want
   .simp only[hbw,beq_self_eq_true,if_true]
    exact .inl (go ((gX.1 hv).1 hbw))
   .have:(b==want)=false:=by simpa using hbw
    simp only[this,Bool.false_eq_true,if_false]
    have hn:b = !want:=aCq hbw
    refine⟨_,S,ρ,κ,(gX.1 hv).2 hn,?_⟩
    have:=hok.put (x:=.v undef) (v:=undef) (.clo (.v _)) h3
    all_goals grind [St.f,fU,undef]
  .rename_i cs hb
   have hw:=qP hok g1 g3 hb
   simp only[hw,Bool.false_eq_true,if_false]
   refine⟨_,S,ρ,κ,hv,?_⟩
   have:=hok.put (x:=.v undef) (v:=undef) (.clo (.v _)) h3
   all_goals grind [St.f,fU,undef]
  .exact hv.elim
theorem aBP {ops:Array Oper}{K:Act->World->Prop}{i:Nat} (h:wpOp P ops (λ_ _ _=>False) i K a w):∃a' w',K a' w':=by
 unfold wpOp at h
 split at h
 .exact⟨_,_,h⟩
 .split at h
  .rcases h with h|⟨_,_,_,h⟩
   .rename_i o _ _
    unfold Oper.wp at h
    generalize(execOp a.eval o).run P w=r at h
    cases r with
    | ok n w' =>
     cases n<;>simp only[Oper.upon] at h
     case enter f args =>
      obtain⟨e,w'',fr,h,_⟩:=h []
      cases e with
      |returned v=>exact⟨_,_,h⟩
      |panicked ch=>exact h.elim
      |outgrown=>obtain⟨_,_,h⟩:=h;exact h.elim
     case row row args =>
      obtain⟨v,w'',h,_⟩:=h (Frame.enter P 0 #[] .normal) []
      exact⟨_,_,h⟩
     all_goals exact⟨_,_,h⟩
    |halt x w'=>cases x<;>simp only[Oper.upon] at h
   .exact h.elim
  .exact⟨_,_,h⟩
end
end Go.Vs
