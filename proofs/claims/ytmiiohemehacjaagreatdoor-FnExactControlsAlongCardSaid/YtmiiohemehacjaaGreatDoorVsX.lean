/- Regions whose order is open. -/
import Derived.Test.YtmiiohemehacjaaGreatDoorVsS
set_option linter.all false
set_option maxHeartbeats 8000000
namespace Go.Vs
section
variable [Envs]
variable {N:Name->Prop}{h h':Name->Option Blk}{ev ev':Operand->AV}
theorem aIJ (F:Agr N h h') {k:Nat}{x:AV} (H:Off N x):oQ k h x=oQ k h' x:=by
 cases x<;>try rfl
 case v x=>unfold oQ;split<;>first|rfl|simp_all
 case loc n off len =>
  simp only[oQ];cases hx:h n with
  |none=>rw[F.none H.loc hx]
  | some b =>
   obtain⟨J,I,e⟩:=F.some H.loc hx
   all_goals grind [yX]
theorem aNa (Y:Agr N h h') {op:AOp}{K:AV->Prop} (H:∀o,o∈aM op->ev o=ev' o∧Off N (ev o)) (F:rd ev h K op):rd ev' h' K op:=by
 cases op
 case mv x=>simpa only[rd,(H x (by simp[aM])).1] using F
 case pick c a b =>
  simp only[rd] at F⊢
  all_goals grind [aM]
 case load g k a =>
  have⟨L,I⟩:=H a (by simp[aM]);simp only[rd,←L] at F⊢;split at F
  .exact F
  .rename_i n e c U;rw[U] at I;split at F
   .rename_i b O;obtain⟨b',J,Z⟩:=Y.some I.ptr O;simp only[J,aMc Z];exact F
   .exact F.elim
  .exact F.elim
 case fieldAddr off x =>
  have⟨L,I⟩:=H x (by simp[aM]);simp only[rd,←L] at F⊢;split at F
  .rename_i n e c U;rw[U] at I;split at F
   .rename_i b O;obtain⟨b',J,Z⟩:=Y.some I.ptr O;simp only[J];exact F
   .exact F.elim
  .exact F
  .exact F.elim
 case loadV g k a =>
  have⟨L,I⟩:=H a (by simp[aM]);simp only[rd,←L] at F⊢;split at F
  .rename_i n e c U;rw[U] at I;split at F
   .rename_i cs z O;obtain⟨b',J,Z⟩:=Y.some I.ptr O;obtain⟨z',rfl⟩:=aCa Z;simp only[J];have er:(Blk.var cs z').row e=(Blk.var cs z).row e:=by cases e<;>rfl
    rw[er];exact F
   .exact F.elim
  .exact F.elim
 case fieldV off x =>
  have⟨L,I⟩:=H x (by simp[aM]);simp only[rd,←L] at F⊢;split at F
  .rename_i n e c U;rw[U] at I;split at F
   .rename_i cs z O;obtain⟨b',J,Z⟩:=Y.some I.ptr O
    all_goals grind [aCa]
   .exact F.elim
  .exact F.elim
 case field g off k x=>simpa only[rd,(H x (by simp[aM])).1] using F
 case idxSl k x i =>
  have⟨L,I⟩:=H x (by simp[aM]);have⟨e3,_⟩:=H i (by simp[aM]);simp only[rd,←L,←e3] at F⊢;split at F
  .exact F
  .rename_i n off len kk i' U hi;rw[U] at I;split at F
   .rename_i k' l z O;obtain⟨b',J,Z⟩:=Y.some I.loc O
    all_goals grind [yX]
   .exact F.elim
  .exact F.elim
 case idxArr n k x i =>
  have⟨L,I⟩:=H x (by simp[aM]);have⟨e3,_⟩:=H i (by simp[aM]);simp only[rd,←L,←e3] at F⊢;split at F
  .exact F
  .rename_i m e c kk i' U hi;rw[U] at I;split at F
   .rename_i b O;obtain⟨b',J,Z⟩:=Y.some I.ptr O;simp only[J];exact F
   .exact F.elim
  .exact F.elim
 case idxAgg g n k x i=>simpa only[rd,(H x (by simp[aM])).1,(H i (by simp[aM])).1] using F
 case idxStr x i=>simpa only[rd,(H x (by simp[aM])).1,(H i (by simp[aM])).1] using F
 case bin o x y=>simpa only[rd,(H x (by simp[aM])).1,(H y (by simp[aM])).1] using F
 case binS o x y=>simpa only[rd,(H x (by simp[aM])).1,(H y (by simp[aM])).1] using F
 case binB o x y=>simpa only[rd,(H x (by simp[aM])).1,(H y (by simp[aM])).1] using F
 case un o x=>simpa only[rd,(H x (by simp[aM])).1] using F
 case conv k x=>simpa only[rd,(H x (by simp[aM])).1] using F
 case len x =>
  have⟨L,I⟩:=H x (by simp[aM]);simp only[rd,←L] at F⊢;split at F
  .exact F
  .rename_i n off len U;rw[U] at I;split at F
   .rename_i k' l z O;obtain⟨b',J,Z⟩:=Y.some I.loc O
    all_goals grind [yX]
   .exact F.elim
  .exact F
  .exact F.elim
 case lenS x=>simpa only[rd,(H x (by simp[aM])).1] using F
 case lenC n=>exact F
 case slc k x lo hi =>
  have⟨L,I⟩:=H x (by simp[aM])
  have e3:lo.map ev=lo.map ev':=by
   cases lo with
   |none=>rfl
   |some o=>simp[(H o (by simp[aM])).1]
  have e4:hi.map ev=hi.map ev':=by
   cases hi with
   |none=>rfl
   |some o=>simp[(H o (by simp[aM])).1]
  simp only[rd,←L,←e3,←e4] at F⊢;split at F
  .exact F
  .rename_i n off len U;rw[U] at I;split at F
   .rename_i k' l z O;obtain⟨b',J,Z⟩:=Y.some I.loc O
    all_goals grind [yX]
   .exact F.elim
  .exact F.elim
 case sstr x lo hi =>
  have⟨L,I⟩:=H x (by simp[aM])
  have e3:lo.map ev=lo.map ev':=by
   cases lo with
   |none=>rfl
   |some o=>simp[(H o (by simp[aM])).1]
  have e4:hi.map ev=hi.map ev':=by
   cases hi with
   |none=>rfl
   |some o=>simp[(H o (by simp[aM])).1]
  simpa only[rd,←L,←e3,←e4] using F
 case nilc x =>
  have⟨L,I⟩:=H x (by simp[aM]);simp only[rd,←L] at F⊢;split at F
  .exact F
  .rename_i n e c U;rw[U] at I;split at F
   .rename_i b O;obtain⟨b',J,Z⟩:=Y.some I.ptr O;simp only[J];exact F
   .exact F.elim
  .exact F
  .exact F.elim
 case extract x i=>simpa only[rd,(H x (by simp[aM])).1] using F
 case build z ps =>
  simp only[rd] at F⊢
  all_goals grind [zS,aM]
 case mkfn f cs =>
  simp only[rd] at F⊢
  all_goals grind [List.map_congr_left,aM]
 case mm mx x y=>simpa only[rd,(H x (by simp[aM])).1,(H y (by simp[aM])).1] using F
 case b2s x =>
  have⟨L,I⟩:=H x (by simp[aM]);simp only[rd,←L,←aIJ Y I] at F⊢;exact F
 case eqA neg ks x y=>simpa only[rd,(H x (by simp[aM])).1,(H y (by simp[aM])).1] using F
 case idxB x y=>simpa only[rd,(H x (by simp[aM])).1,(H y (by simp[aM])).1] using F
 all_goals exact F.elim
theorem aHo {op:BinOp}{k I:IntKind}{a b:Int}{K:AV->Prop} (F:aGm op k I a b K):∃x:Value,K (.v x)∧∀H:AV->Prop,H (.v x)->aGm op k I a b H:=by
 cases op<;>simp only[aGm] at F⊢<;> exact⟨_,F.2,λ_ J=>⟨F.1,J⟩⟩
theorem aEX {op:BinOp}{a b:ByteArray}{K:AV->Prop} (H:aBs op a b K):∃x:Value,K (.v x)∧∀F:AV->Prop,F (.v x)->aBs op a b F:=by
 grind [aBs,BinOp]
theorem aDz {op:BinOp}{a b:Bool}{K:AV->Prop} (H:y7 op a b K):∃x:Value,K (.v x)∧∀F:AV->Prop,F (.v x)->y7 op a b F:=by
 grind [y7,BinOp]
inductive Nm:(Name->Prop)->AV->Prop
 |junk (p:Name->Prop):Nm p .junk
 |v (p:Name->Prop) (x:Value):Nm p (.v x)
 |sl (p:Name->Prop) (k:Nat) (l:List (List AV)) (hl:∀r,r∈l->∀x,x∈r->Nm (λ_=>False) x):Nm p (.sl k l)
 |ro (p:Name->Prop) (c:List AV) (hc:∀x,x∈c->Nm (λ_=>False) x):Nm p (.ro c)
 |loc (p:Name->Prop) (n:Name) (off len:Nat) (hn:p n):Nm p (.loc n off len)
 |ptr (p:Name->Prop) (n:Name) (e c:Nat) (hn:p n):Nm p (.ptr n e c)
 |fn (p:Name->Prop) (f:FuncId) (c:List AV) (hc:∀x,x∈c->Nm p x):Nm p (.fn f c)
 |agg (p:Name->Prop) (c:List AV) (hc:∀x,x∈c->Nm p x):Nm p (.agg c)
 |tup (p:Name->Prop) (c:List AV) (hc:∀x,x∈c->Nm p x):Nm p (.tup c)
def NmL (p:Name->Prop) (c:List AV):Prop:=∀x,x∈c->Nm p x
def NmB (p:Name->Prop):Blk->Prop
 |.var c _=>NmL p c
 |.arr _ l _=>∀r,r∈l->NmL (λ_=>False) r
theorem Nm.mono {p q:Name->Prop}{x:AV} (H:Nm p x) (F:∀n,p n->q n):Nm q x:=by
 induction H with
 |junk=>exact .junk _
 |v=>exact .v _ _
 |sl _ k l hl _=>exact .sl _ k l hl
 |ro _ c hc _=>exact .ro _ c hc
 |loc _ n off len hn=>exact .loc _ n off len (F n hn)
 |ptr _ n e c hn=>exact .ptr _ n e c (F n hn)
 |fn _ f c hc ih=>exact .fn _ f c λx H=>ih x H F
 |agg _ c hc ih=>exact .agg _ c λx H=>ih x H F
 |tup _ c hc ih=>exact .tup _ c λx H=>ih x H F
theorem Nm.off {p:Name->Prop}{x:AV} (F:Nm p x) (H:∀n,p n->¬N n):Off N x:=by
 induction F with
 |junk=>exact Off.junk
 |v=>exact Off.v _
 |sl=>exact Off.sl _ _
 |ro=>exact Off.ro _
 |loc _ n off len hn=>exact Off.mk_loc (H n hn)
 |ptr _ n e c hn=>exact Off.mk_ptr (H n hn)
 |fn _ f c hc ih=>exact Off.mk_fn (dJ.of_mem λx F=>ih x F H)
 |agg _ c hc ih=>exact Off.mk_agg (dJ.of_mem λx F=>ih x F H)
 |tup _ c hc ih=>exact Off.mk_tup (dJ.of_mem λx F=>ih x F H)
theorem Nm.of_off {p:Name->Prop}{x:AV} (F:Nm p x) (H:Off N x):Nm (λn=>¬N n) x:=by
 induction F with
 |junk=>exact .junk _
 |v=>exact .v _ _
 |sl _ k l hl _=>exact .sl _ k l hl
 |ro _ c hc _=>exact .ro _ c hc
 |loc _ n off len hn=>exact .loc _ n off len H.loc
 |ptr _ n e c hn=>exact .ptr _ n e c H.ptr
 |fn _ f c hc ih=>exact .fn _ f c λx F=>ih x F (H.fn.mem x F)
 |agg _ c hc ih=>exact .agg _ c λx F=>ih x F (H.agg.mem x F)
 |tup _ c hc ih=>exact .tup _ c λx F=>ih x F (H.tup.mem x F)
theorem Nm.getD {p:Name->Prop}{c:List AV} (F:NmL p c) (j:Nat):Nm p (c.getD j .junk):=by
 grind [NmL,Nm]
theorem NmL.drop {p:Name->Prop}{c:List AV} (F:NmL p c) (j:Nat):NmL p (c.drop j):=λx H=>F x (List.mem_of_mem_drop H)
theorem NmL.take {p:Name->Prop}{c:List AV} (F:NmL p c) (j:Nat):NmL p (c.take j):=λx H=>F x (List.mem_of_mem_take H)
theorem NmL.mk {p:Name->Prop}{g:Bool}{c:List AV} (F:NmL p c):Nm p (AV.mk g c):=by
 cases g
 .cases c with
  |nil=>exact .junk _
  |cons x r=>exact F x (by simp)
 .exact .agg _ c F
theorem NmL.closed {p:Name->Prop}{c:List AV} (F:NmL (λ_=>False) c):NmL p c:=λx H=>(F x H).mono λ_ h=>h.elim
theorem Nm.wJ {p:Name->Prop}{c:List AV} (h:Nm p (.ro c)):NmL (λ_=>False) c:=by cases h;assumption
theorem Nm.zT {p:Name->Prop}{k:Nat}{l:List (List AV)} (h:Nm p (.sl k l)):∀r,r∈l->NmL (λ_=>False) r:=by cases h;assumption
theorem Nm.gJ {p:Name->Prop}{n:Name}{e c:Nat} (h:Nm p (.ptr n e c)):p n:=by cases h;assumption
theorem Nm.iL {p:Name->Prop}{n:Name}{e c:Nat} (h:Nm p (.loc n e c)):p n:=by cases h;assumption
theorem Nm.aB9 {p:Name->Prop}{c:List AV} (h:Nm p (.tup c)):NmL p c:=by cases h;assumption
theorem NmB.row {p:Name->Prop}{b:Blk} (H:NmB p b) (e:Nat):NmL p (b.row e):=by
 cases b with
 | var c z=>cases e with
  |zero=>exact H
  |succ e=>intro x F;simp[Blk.row] at F
 | arr k l z =>
  intro x F;simp only[Blk.row] at F;rcases Nat.lt_or_ge e l.length with h|h
  .have:l.getD e []=l[e]:=by simp[List.getD,h]
   rw[this] at F;exact(H _ (List.getElem_mem h) x F).mono λ_ h=>h.elim
  all_goals grind
theorem aJj {p:Name->Prop}{x:AV} (H:Nm p x) {c:List AV} (F:kG h x=some c):NmL p c:=by
 grind [kG,Nm,NmL]
theorem aKq {p:Name->Prop}:∀{xs cs:List AV}{o:Nat},NmL p xs->NmL p cs->NmL p (lay cs o xs)
 | [],_,_,_,hc=>hc
 | x::r,cs,o,hx,hc=>by
  rw[lay];refine aKq (λy F=>hx y (by simp[F])) λy F=>?_
  all_goals grind [NmL]
theorem aDT {p:Name->Prop}:∀{H:List (Nat×Nat×Operand)}{cs:List AV}{c:List AV},(∀q,q∈H->Nm p (ev q.2.2))->NmL p cs->layAll ev h cs H (λI=>I=c)->NmL p c
 | [],_,_,_,hc,hk=>by cases hk;exact hc
 | (o,n,x)::r,cs,K,he,hc,hk=>by
  simp only[layAll] at hk;split at hk
  .rename_i c F;exact aDT (λp J=>he p (by simp[J])) (aKq (aJj (he (o,n,x) (by simp)) F) hc) hk.2
  .exact hk.elim
theorem aCt {op:AOp}{K:AV->Prop} (F:rd ev h K op):∃x,K x∧(∀L:AV->Prop,L x->rd ev h L op)∧
  ∀p:Name->Prop,(∀z Z,op=.build z Z->NmL p z)->(∀o,o∈aM op->Nm p (ev o))->(∀n b,p n->h n=some b->NmB p b)->Nm p x:=by
 cases op
 case mv x=>exact⟨_,F,λ_ H=>H,λp _ I _=>I x (by simp[aM])⟩
 case pick c a b =>
  simp only[rd] at F⊢;split at F
  .rename_i t ht;cases t
   .exact⟨_,F.get.2 rfl,λ_ H=>Br.mk (λh=>(by cases h)) (λ_=>H),λp _ I _=>I b (by simp[aM])⟩
   .exact⟨_,F.get.1 rfl,λ_ H=>Br.mk (λ_=>H) (λh=>(by cases h)),λp _ I _=>I a (by simp[aM])⟩
  .exact F.elim
 case load g k a =>
  simp only[rd] at F⊢;split at F
  .rename_i c J
   exact ⟨_,F.2,λ_ H=>⟨F.1,H⟩,λp _ I _=>by
     have:=I a (by simp[aM]);rw[J] at this;exact NmL.mk (NmL.take (NmL.closed this.wJ) _)⟩
  .rename_i n e c J;split at F
   .rename_i b O
    exact ⟨_,F.2,λ_ H=>⟨F.1,H⟩,λp _ I Y=>by
      have:=I a (by simp[aM]);rw[J] at this;exact NmL.mk (NmL.take (NmL.drop ((Y n b this.gJ O).row e) _) _)⟩
   .exact F.elim
  .exact F.elim
 case fieldAddr off x =>
  simp only[rd] at F⊢
  all_goals grind [aM,Nm]
 case loadV g k a =>
  simp only[rd] at F⊢;split at F
  .rename_i n e c J;split at F
   .rename_i cs z O
    exact ⟨_,F.2,λ_ H=>⟨F.1,H⟩,λp _ I Y=>by
      have:=I a (by simp[aM]);rw[J] at this;exact NmL.mk (NmL.take (NmL.drop ((Y n _ this.gJ O).row e) _) _)⟩
   .exact F.elim
  .exact F.elim
 case fieldV off x =>
  simp only[rd] at F⊢
  all_goals grind [aM,Nm]
 case field g off k x =>
  simp only[rd] at F⊢
  all_goals grind [aM,NmL.mk,NmL,Nm]
 case idxSl k x i =>
  simp only[rd] at F⊢
  all_goals grind [aM,Nm]
 case idxArr n k x i =>
  simp only[rd] at F⊢
  all_goals grind [aM,Nm]
 case idxAgg g n k x i =>
  simp only[rd] at F⊢
  all_goals grind [aM,NmL.mk,NmL,Nm]
 case idxStr x i =>
  simp only[rd] at F⊢
  all_goals grind [Nm]
 case bin o x y =>
  simp only[rd] at F⊢
  all_goals grind [aHo,Nm]
 case binS o x y =>
  simp only[rd] at F⊢
  all_goals grind [aEX,Nm]
 case binB o x y =>
  simp only[rd] at F⊢
  all_goals grind [aDz,Nm]
 case un o x =>
  simp only[rd] at F⊢
  all_goals grind [Nm]
 case conv k x =>
  simp only[rd] at F⊢
  all_goals grind [Nm]
 case len x =>
  simp only[rd] at F⊢
  all_goals grind [Nm]
 case lenS x =>
  simp only[rd] at F⊢
  all_goals grind [Nm]
 case lenC n=>exact⟨_,F,λ_ H=>H,λp _ _ _=>.v _ _⟩
 case slc k x lo hi =>
  simp only[rd] at F⊢;split at F
  .rename_i k' l J
   have fin:∀p:Name->Prop,(∀o,o∈aM (.slc k x lo hi)->Nm p (ev o))->∀a b,Nm p (.sl k ((l.take a).drop b)):=λp I a b=>by
    have:=I x (by simp[aM]);rw[J] at this;exact .sl _ _ _ λr hr=>this.zT r (List.mem_of_mem_take (List.mem_of_mem_drop hr))
   split at F
   .exact⟨_,F.2,λ_ H=>⟨F.1,H⟩,λp _ I _=>fin p I _ _⟩
   .exact⟨_,F.2,λ_ H=>⟨F.1,H⟩,λp _ I _=>fin p I _ _⟩
   .exact⟨_,F.2,λ_ H=>⟨F.1,H⟩,λp _ I _=>fin p I _ _⟩
   .exact⟨_,F.2,λ_ H=>⟨F.1,H⟩,λp _ I _=>fin p I _ _⟩
   .exact F.elim
  .rename_i n off len J
   have fin:∀p:Name->Prop,(∀o,o∈aM (.slc k x lo hi)->Nm p (ev o))->∀a b,Nm p (.loc n a b):=λp I a b=>by
    have:=I x (by simp[aM]);rw[J] at this;exact .loc _ _ _ _ this.iL
   split at F
   .split at F
    .exact⟨_,F.2,λ_ H=>⟨F.1,H⟩,λp _ I _=>fin p I _ _⟩
    .exact⟨_,F.2,λ_ H=>⟨F.1,H⟩,λp _ I _=>fin p I _ _⟩
    .exact⟨_,F.2,λ_ H=>⟨F.1,H⟩,λp _ I _=>fin p I _ _⟩
    .exact⟨_,F.2,λ_ H=>⟨F.1,H⟩,λp _ I _=>fin p I _ _⟩
    .exact F.elim
   .exact F.elim
  .exact F.elim
 case sstr x lo hi =>
  simp only[rd] at F⊢
  all_goals grind [Nm]
 case nilc x =>
  simp only[rd] at F⊢
  all_goals grind [aM]
 case extract x i =>
  simp only[rd] at F⊢
  all_goals grind [aM,Nm]
 case build z Z =>
  simp only[rd] at F⊢;obtain⟨c,h1,h2⟩:=wF F;refine⟨_,h1,?_,λp hz I _=>?_⟩
  .exact λL H=>xP (λc' U=>by rw[U];exact H) h2
  .exact .agg _ _ (aDT (λq hq=>I _ (by simp only[aM,List.mem_map];exact⟨q,hq,rfl⟩)) (hz z Z rfl) h2)
 case mkfn f cs =>
  simp only[rd] at F⊢
  all_goals grind [aM,Nm]
 case mm mx x y =>
  simp only[rd] at F⊢
  all_goals grind [Nm]
 case b2s x =>
  simp only[rd] at F⊢
  all_goals grind [Nm]
 case idxB x y =>
  simp only[rd] at F⊢
  all_goals grind [Nm]
 case eqA neg ks x y =>
  simp only[rd] at F⊢
  all_goals grind [Nm]
 all_goals exact F.elim
end
section
variable [Envs]
variable {P:Program}{C:Ctx}{a:Act}{w:World}{S:Nat->Prop}{ρ:Name->Option Nat}{κ:Name->Nat}
variable {N:Name->Prop}{h h':Name->Option Blk}{ev ev':Operand->AV}
theorem aNL {n:Name} (I:Agr N h h') {op:AOp}{K:AV->Blk->Prop} (Y:∀z,op=.alloc z->dJ N z) (F:∀k m z H,op=.bslice k m z H->dJ N z) (O:∀k m z x,op=.mk k m z x->dJ N z)
  (U:∀o,o∈aM op->ev o=ev' o∧Off N (ev o)) (J:al ev h n K op):al ev' h' n K op:=by
 cases op
 all_goals try grind [aM,al,aDb,nN,fO,AV]
 case bslice k m z H =>
  simp only[al] at J⊢;rw[←aBt (p:=nN h) λx L=>aCC I ((F k m z H rfl).mem x L)]
  all_goals grind [zS,aM]
 all_goals grind [aM,al,nN,fO,AV]
theorem yD {n:Name}{op:AOp}{K:AV->Blk->Prop} (F:al ev h n K op):∃x b,K x b∧(∀J:AV->Blk->Prop,J x b->al ev h n J op)∧
  (∀N:Name->Prop,¬N n->Off N x)∧∀N:Name->Prop,(∀z,op=.alloc z->dJ N z)->(∀o,o∈aM op->Off N (ev o))->aDl N b:=by
 cases op
 case box x =>
  simp only[al] at F⊢;split at F
  .rename_i c Y;exact⟨_,_,F,λ_ h=>h,λN H=>Off.mk_ptr H,λN _ Z m I=>aHk (Z x (by simp[aM])) Y m I⟩
  .exact F.elim
 case alloc z =>
  simp only[al] at F⊢;exact⟨_,_,F.2,λ_ h=>⟨F.1,h⟩,λN H=>Off.mk_ptr H,λN hz _ m I=>hz z rfl m I⟩
 case bslice k m z ps =>
  simp only[al] at F⊢;obtain⟨c,⟨O,h2⟩,U⟩:=wF F.2;refine⟨_,_,h2,λJ h=>⟨F.1,xP (λc' L=>?_) U⟩,λN H=>Off.mk_loc H,λN _ _ m I=>rfl⟩;rw[L];exact⟨O,h⟩
 case mk k y z x =>
  simp only[al] at F⊢;split at F
  .exact⟨_,_,F.2,λ_ h=>⟨F.1,h⟩,λN H=>Off.mk_loc H,λN _ _ m I=>rfl⟩
  .exact F.elim
 all_goals exact F.elim
theorem aCN {f g:AV->Option (AV×List Name)}:∀{c:List AV},(∀x,x∈c->f x=g x)->eG f c=eG g c
 | [],_=>rfl
 |x::r,hh=>by simp only[eG,hh x (by simp),aCN (c:=r) λy F=>hh y (by simp[F])]
theorem zQ {f:AV->Option (AV×List Name)} (p:Name->Prop):∀{c F:List AV}{L:List Name},(∀x,x∈c->∀y L,f x=some (y,L)->∀n,n∈L->p n)->eG f c=some (F,L)->∀n,n∈L->p n
 | [],F,L,_,hm,n,hn=>by
  grind [eG]
 | x::r,F,L,hh,hm,n,hn=>by
  simp only[eG] at hm;split at hm
  .rename_i y I ys J O h2;simp only[Option.some.injEq,Prod.mk.injEq] at hm;rw[←hm.2] at hn;rcases List.mem_append.1 hn with hn|hn
   .grind
   .exact zQ p (λz H=>hh z (by simp[H])) h2 n hn
  .cases hm
theorem aGg (Z:Agr N h h') (hb:∀n b,¬N n->h n=some b->aDl N b):∀(m:Nat) (c:Bool) (x:AV),Off N x->conv h m [] c x=conv h' m [] c x∧∀y L,conv h m [] c x=some (y,L)->∀n,n∈L->¬N n:=by
 intro m
 induction m with
 |zero=>intro c x _;exact⟨rfl,λy L h=>by simp[conv] at h⟩
 | succ m ih =>
  intro c x H
  have I:∀(c:Bool) (cs:List AV),dJ N cs->eG (conv h m [] c) cs=eG (conv h' m [] c) cs∧∀ys L,eG (conv h m [] c) cs=some (ys,L)->∀n,n∈L->¬N n:=λc cs Y =>
   ⟨aCN λx J=>(ih c x (Y.mem x J)).1,λys L U=>zQ (λn=>¬N n) (λx J y L hc=>(ih c x (Y.mem x J)).2 y L hc) U⟩
  cases x
  case junk=>exact⟨rfl,λy L h=>by simp only[conv] at h;split at h<;>simp at h;rw[h.2];simp⟩
  case v x=>exact⟨rfl,λy L h=>by simp only[conv,Option.some.injEq,Prod.mk.injEq] at h;rw[←h.2];simp⟩
  case sl k l=>exact⟨rfl,λy L h=>by simp only[conv,Option.some.injEq,Prod.mk.injEq] at h;rw[←h.2];simp⟩
  case ro c=>exact⟨rfl,λy L h=>by simp only[conv,Option.some.injEq,Prod.mk.injEq] at h;rw[←h.2];simp⟩
  case loc n off len =>
   simp only[conv,kL];cases J:h n with
   |none=>rw[Z.none H.loc J];exact⟨rfl,λy L h=>by simp at h⟩
   | some b =>
    obtain⟨b',O,e⟩:=Z.some H.loc J;rw[O];cases b with
    | var c z =>
     grind [aCa]
    | arr k l z =>
     obtain⟨z',rfl⟩:=yX e;refine⟨rfl,λy L h=>?_⟩;simp only[Option.some.injEq,Prod.mk.injEq] at h;rw[←h.2];intro n' F;rw[List.mem_singleton.1 F];exact H.loc
  case ptr n e o =>
   simp only[conv,kL];cases J:h n with
   |none=>rw[Z.none H.ptr J];exact⟨rfl,λy L h=>by simp at h⟩
   | some b =>
    obtain⟨b',O,e'⟩:=Z.some H.ptr J;rw[O];have hd:=hb n b H.ptr J;cases b with
    | var c z =>
     obtain⟨z',rfl⟩:=aCa e';have hl:=I true c hd;simp only[hl.1,true_and];intro y L h;cases U:eG (conv h' m [] true) c with
     |none=>rw[U] at h;simp at h
     | some q =>
      rw[U] at h;simp only[Option.map_some,Option.some.injEq,Prod.mk.injEq] at h;rw[←h.2];intro n' F;rcases List.mem_cons.1 F with rfl|F
      .exact H.ptr
      .grind
    | arr k l z =>
     obtain⟨z',rfl⟩:=yX e';refine⟨rfl,λy L h=>?_⟩;simp only[Option.some.injEq,Prod.mk.injEq] at h;rw[←h.2];intro n' F;rw[List.mem_singleton.1 F];exact H.ptr
  all_goals
   rename_i cs;have hl:=I c cs (by first|exact H.fn|exact H.agg|exact H.tup);simp only[conv,hl.1,true_and];intro y L h;cases U:eG (conv h' m [] c) cs with
   |none=>rw[U] at h;simp at h
   | some q =>
    grind
mutual
theorem aJ4 (φ:Name->Option Name) (n:Name) (F:∀m,φ m≠some n):∀x:AV,(rn φ x).has n=false
 |.v _=>rfl
 |.sl _ _=>rfl
 |.ro _=>rfl
 |.junk=>rfl
 | .loc m off len=>by
  grind [rn,AV.has]
 | .ptr m e c=>by
  grind [rn,AV.has]
 |.fn f c=>by simp only[rn,AV.has];exact aAv φ n F c
 |.agg c=>by simp only[rn,AV.has];exact aAv φ n F c
 |.tup c=>by simp only[rn,AV.has];exact aAv φ n F c
theorem aAv (φ:Name->Option Name) (n:Name) (F:∀m,φ m≠some n):∀c:List AV,oD n (rnL φ c)=false
 | []=>rfl
 |x::r=>by simp only[rnL,oD,aJ4 φ n F x,aAv φ n F r,Bool.or_self]
end
end
section
variable [Envs]
variable {P:Program}{C:Ctx}{a:Act}{w:World}{S:Nat->Prop}{ρ:Name->Option Nat}{κ:Name->Nat}
structure Dl where
 v:AV
 nb:List (Name×Blk)
 fz:Bool
 L:List Name
 nn:Name->Prop
def app (d:Option Nat) (δ:Dl) (σ:FSt):FSt:=
 ⟨upd σ.s d δ.v,λm=>(aB δ.nb m).or ((σ.h m).map λb=>if δ.fz=true∧m∈δ.L then frz b else b)⟩
def isV:AV->Bool
 |.v _=>true
 |_=>false
def okZ:AOp->Bool
 |.build z _=>z.all isV
 |.alloc z=>z.all isV
 |.bslice _ _ z _=>z.all isV
 |.mk _ _ z _=>z.all isV
 |_=>true
def qG:AOp->Bool
 |.call _ _ bor=>bor.isEmpty
 |.store .. | .append .. | .appendC .. | .bsliceC .. | .clr ..=>false
 |op=>okZ op
theorem aMv {p:Name->Prop}{z:List AV} (h:z.all isV=true):NmL p z:=by
 intro x F;have:=List.all_eq_true.1 h x F;cases x<;>simp[isV] at this;exact .v _ _
theorem aGo {N:Name->Prop}{z:List AV} (h:z.all isV=true):dJ N z:=by
 grind [dJ.of_mem,isV,Off.v,AV]
inductive Eff (P:Program) (d:Option Nat) (op:AOp) (σ:FSt):Dl->Prop
 | rd (v:AV) (h1:wH op=true) (h2:∀K:AV->Prop,K v->Vs.rd (evO σ.s) σ.h K op)
   (h3:∀p:Name->Prop,(∀o,o∈aM op->Nm p (evO σ.s o))->(∀n b,p n->σ.h n=some b->NmB p b)->Nm p v):Eff P d op σ ⟨v,[],false,[],λ_=>False⟩
 | al (d':Nat) (hd:d=some d') (v:AV) (b:Blk) (h1:∀K:AV->Blk->Prop,K v b->Vs.al (evO σ.s) σ.h (.t d' 0) K op) (hf:gP (.t d' 0) σ) (hn:b.has (.t d' 0)=false)
   (h2:∀N:Name->Prop,¬N (.t d' 0)->Off N v) (h3:∀N:Name->Prop,(∀o,o∈aM op->Off N (evO σ.s o))->aDl N b):Eff P d op σ ⟨v,[(.t d' 0,b)],false,[],λn=>n=.t d' 0⟩
 | call (d':Nat) (hd:d=some d') (f:Operand) (args:List Operand) (hop:op=.call f args []) (g:FuncId) (caps:List AV) (hg:evO σ.s f=.fn g caps) (ys:List AV) (L:List Name)
   (hm:eG (conv σ.h 8 [] false) (args.map (evO σ.s)++caps)=some (ys,L)) (r:AV) (hout:List (Option Blk)) (fz:Bool) (hfn:Fn P g [] ys r hout)
   (hflat:fz=false->(L=[]∨(flat r=true∧∀b,some b∈hout->iD b))) (hfr:∀j,j<hout.length->gP (.t d' j) σ) :
   Eff P d op σ ⟨rn (phi [] d' hout.length) r,rV (rnB (phi [] d' hout.length)) d' 0 0 hout,fz,L,λn=>∃j,j<hout.length∧n=.t d' j⟩
def Canon (σ:St):Prop:=(∀p,p∈σ.s->look σ.s p.1=p.2)∧∀p,p∈σ.h->aB σ.h p.1=some p.2
def aC2:List (Nat×AV)->List (Nat×AV)
 | []=>[]
 |(i,x)::r=>(i,x)::(aC2 r).filter λp=>!decide (p.1=i)
def aC3:List (Name×Blk)->List (Name×Blk)
 | []=>[]
 |(i,x)::r=>(i,x)::(aC3 r).filter λp=>!decide (p.1=i)
theorem tQ (i:Nat):∀(s:List (Nat×AV)) (t:Nat),t≠i->look (s.filter λp=>!decide (p.1=i)) t=look s t
 | [],_,_=>rfl
 | (j,x)::r,t,ht=>by
  by_cases F:j=i
  .simp only[List.filter_cons,F,decide_true,Bool.not_true,Bool.false_eq_true,if_false,look,ht,tQ i r t ht]
  .simp only[List.filter_cons,F,decide_false,Bool.not_false,if_true,look,tQ i r t ht]
theorem qK (i:Name):∀(s:List (Name×Blk)) (t:Name),t≠i->aB (s.filter λp=>!decide (p.1=i)) t=aB s t
 | [],_,_=>rfl
 | (j,x)::r,t,ht=>by
  by_cases F:j=i
  .simp only[List.filter_cons,F,decide_true,Bool.not_true,Bool.false_eq_true,if_false,aB,ht,qK i r t ht]
  .simp only[List.filter_cons,F,decide_false,Bool.not_false,if_true,aB,qK i r t ht]
theorem aBk:∀s:List (Nat×AV),look (aC2 s)=look s∧∀p,p∈aC2 s->look (aC2 s) p.1=p.2
 | []=>⟨rfl,by simp[aC2]⟩
 | (i,x)::r=>by
  obtain⟨H,h2⟩:=aBk r
  have e:look (aC2 ((i,x)::r))=look ((i,x)::r):=by
   funext t
   simp only[aC2,look];split
   .rfl
   .rename_i I;rw[tQ i _ _ I,H]
  refine⟨e,λp F=>?_⟩;simp only[aC2,List.mem_cons,List.mem_filter,Bool.not_eq_true',decide_eq_false_iff_not] at F;rcases F with rfl|⟨F,hne⟩
  .simp[aC2,look]
  .simp only[aC2,look,hne,if_false];rw[tQ i _ _ hne];exact h2 p F
theorem aBl:∀s:List (Name×Blk),aB (aC3 s)=aB s∧∀p,p∈aC3 s->aB (aC3 s) p.1=some p.2
 | []=>⟨rfl,by simp[aC3]⟩
 | (i,x)::r=>by
  obtain⟨H,h2⟩:=aBl r
  have e:aB (aC3 ((i,x)::r))=aB ((i,x)::r):=by
   funext t
   simp only[aC3,aB];split
   .rfl
   .rename_i I;rw[qK i _ _ I,H]
  refine⟨e,λp F=>?_⟩;simp only[aC3,List.mem_cons,List.mem_filter,Bool.not_eq_true',decide_eq_false_iff_not] at F;rcases F with rfl|⟨F,hne⟩
  .simp[aC3,aB]
  .simp only[aC3,aB,hne,if_false];rw[qK i _ _ hne];exact h2 p F
def canon (σ:St):St:=⟨aC2 σ.s,aC3 σ.h⟩
theorem lJ (σ:St):(canon σ).f=σ.f:=by simp only[canon,St.f,(aBk σ.s).1,(aBl σ.h).1]
theorem aAR (σ:St):Canon (canon σ):=⟨(aBk σ.s).2,(aBl σ.h).2⟩
theorem yY {n:Name}{σ:St} (H:Canon σ) (L:n.isT=true) (I:gP n σ.f):bX n σ=true:=by
 simp only[bX,Bool.and_eq_true,List.all_eq_true,Bool.not_eq_true',decide_eq_false_iff_not];refine⟨⟨L,λp F=>?_⟩,λp F=>⟨?_,?_⟩⟩
 .rw[←H.1 p F];exact I.2.1 p.1
 .intro e;have J:=I.1.1;have h2:=H.2 p F;rw[e] at h2;simp only[St.f] at J;rw[J] at h2;cases h2
 .exact I.2.2 p.1 p.2 (H.2 p F)
theorem aAh {op:AOp} (h:wH op=true) {d:Option Nat}{σ:St}{K:St->Prop}:bC P d σ K op↔rd (evO (look σ.s)) (aB σ.h) (λv=>K ⟨put d v σ.s,σ.h⟩) op:=by
 grind [wH,AOp,bC]
theorem aHq {d:Option Nat}{σ:St}{v:AV}{F:Name->Prop}:(St.mk (put d v σ.s) σ.h).f=app d ⟨v,[],false,[],F⟩ σ.f:=by
 simp only[St.f,app,jU,aB,Option.none_or,Bool.false_eq_true,false_and,if_false];congr 1
 funext m
 cases aB σ.h m<;>rfl
theorem aHr {d:Nat}{σ:St}{v:AV}{b:Blk}{n:Name}{H:Name->Prop}:(St.mk ((d,v)::σ.s) ((n,b)::σ.h)).f=app (some d) ⟨v,[(n,b)],false,[],H⟩ σ.f:=by
 simp only[St.f,app,Bool.false_eq_true,false_and,if_false];congr 1
 funext m
 simp only[aB];by_cases F:m=n
 .simp[F]
 .simp only[F,if_false,Option.none_or];cases aB σ.h m<;>rfl
theorem aGn {d:Nat}{σ:St}{v:AV}{F:List (Option Blk)}{fz:Bool}{L:List Name}{H:Name->Prop} :
  (St.mk ((d,v)::σ.s) (zD σ.h [] d F fz L)).f=app (some d) ⟨v,rV (rnB (phi [] d F.length)) d 0 0 F,fz,L,H⟩ σ.f:=by
 simp only[St.f,app];congr 1
 funext m
 unfold zD;rw[aAK];simp only[List.length_nil];congr 1;rw[zV _ (λm b I h=>by simp[aGq,kL] at h)];cases aB σ.h m with
 |none=>rfl
 |some b=>simp[aGq,kL]
theorem aBH {d:Option Nat}{σ:St}{K:St->Prop}{op:AOp} (F:qG op=true) (Z:wH op=true∨d.isSome=true) (H:bC P d σ K op) :
  ∃δ,Eff P d op σ.f δ∧∃σ':St,σ'.f=app d δ σ.f∧K σ':=by
 by_cases hr:wH op=true
 .rw[aAh hr] at H;obtain⟨x,O,h2,Y⟩:=aCt H;refine⟨_,.rd x hr h2 (λp ho hb=>Y p (λz ps e=>?_) ho hb),_,aHq,O⟩
  all_goals grind [aMv,qG,okZ]
 .have Z:=Z.resolve_left hr;obtain⟨d',rfl⟩:=Option.isSome_iff_exists.1 Z
  have J:∀{op:AOp},qG op=true->al (evO (look σ.s)) (aB σ.h) (.t d' 0) (λv b=>(bX (.t d' 0) σ=true∧b.has (.t d' 0)=false)∧K ⟨(d',v)::σ.s,(.t d' 0,b)::σ.h⟩) op->
    ∃δ,Eff P (some d') op σ.f δ∧∃σ':St,σ'.f=app (some d') δ σ.f∧K σ':=by
   intro op F H;obtain⟨x,b,⟨⟨O,h2⟩,Y⟩,h4,h5,h6⟩:=yD H;refine⟨_,.al d' rfl x b h4 (dW O) h2 h5 (λN ho=>h6 N (λz e=>?_) ho),_,aHr,Y⟩;subst e;exact aGo (by simpa[qG,okZ] using F)
  cases op
  case box x=>exact J F H
  case alloc z=>exact J F H
  case bslice k m z ps=>exact J F H
  case mk k y z n=>exact J F H
  case call f args bor =>
   simp only[qG,List.isEmpty_iff] at F;subst F;simp only[bC,aDd] at H;split at H
   .rename_i g caps hg;have hB:aGl σ.h (args.map (evO (look σ.s))) []=[]:=rfl;rw[hB] at H;split at H
    .rename_i ys L1 hin L2 O h2;simp only[wU,Option.some.injEq,Prod.mk.injEq] at h2;obtain⟨rfl,rfl⟩:=h2;obtain⟨_,r,L,fz,ha,I,hc,hK⟩:=H;simp only[List.append_nil,Option.getD_some,List.length_nil] at I hc hK
     have U:∀j,j<L.length->gP (.t d' j) σ.f:=by
      grind [kE,dW]
     exact⟨_,.call d' rfl f args rfl g caps hg ys L1 O r L fz ha I U,_,aGn,hK⟩
    .exact H.elim
   .exact H.elim
  all_goals grind [qG,wH]
theorem xE {d:Option Nat}{σ:St}{op:AOp}{δ:Dl} (J:Canon σ) (U:Eff P d op σ.f δ):bC P d σ (fun σ'=>σ'.f=app d δ σ.f) op:=by
 cases U with
 | rd v h1 h2 h3 =>
  rw[aAh h1];exact h2 _ aHq
 | al d' hd v b h1 hf hn h2 h3 =>
  subst hd;have F:=yY J rfl hf;have:=h1 (λv b=>(bX (.t d' 0) σ=true∧b.has (.t d' 0)=false)∧(St.mk ((d',v)::σ.s) ((.t d' 0,b)::σ.h)).f=app (some d') ⟨v,[(.t d' 0,b)],false,[],λn=>n=.t d' 0⟩ σ.f) ⟨⟨F,hn⟩,aHr⟩
  cases op<;>first
   |exact this.elim
   | (simp only[bC]
      exact h1 _ ⟨⟨F,hn⟩,aHr⟩)
 | call d' hd f args hop g caps hg ys L hm r hout fz hfn hflat hfr =>
  subst hd;subst hop;simp only[bC,aDd];have H:evO (look σ.s) f=.fn g caps:=hg;have I:eG (conv (aB σ.h) 8 [] false) (args.map (evO (look σ.s))++caps)=some (ys,L):=hm;have O:aGl σ.h (args.map (evO (look σ.s))) []=[]:=rfl;rw[H,O];simp only[I,wU];refine⟨rfl,r,hout,fz,hfn,by simpa using hflat,?_,?_⟩
  .simp only[kE,List.all_eq_true,List.mem_range];intro j Y;simp only[Option.getD_some,yY J rfl (hfr j Y),Bool.or_true]
  .simp only[List.append_nil,Option.getD_some,List.length_nil];exact aGn
end
section
variable [Envs]
variable {P:Program}{C:Ctx}{a:Act}{w:World}{S:Nat->Prop}{ρ:Name->Option Nat}{κ:Name->Nat}
structure WF (σ:FSt):Prop where
 s:∀t,Nm (λ_=>True) (σ.s t)
 h:∀n b,σ.h n=some b->NmB (λ_=>True) b
theorem aMI {x:AV}{v:Value} (h:RC S w x v):Nm (λ_=>False) x:=by
 have F:∀(c:List AV),(∀j,j<c.length->Nm (λ_=>False) (c.getD j .junk))->∀y,y∈c->Nm (λ_=>False) y:=by
  intro c H y L;obtain⟨j,I,rfl⟩:=List.mem_iff_getElem.1 L;have:=H j I;simpa[List.getD,I] using this
 induction h with
 |v x=>exact .v _ _
 | sl k l base cap x off xs hb H ho hr hk hcap ih =>
  refine .sl _ _ _ λr J y L=>?_;obtain⟨i,hi,rfl⟩:=List.mem_iff_getElem.1 J;have e:l.getD i []=l[i]:=by simp[List.getD,hi]
  refine F _ (λj I=>?_) y L
  all_goals grind
 |ro c x off xs hx H ho hr ih=>exact .ro _ _ (F c ih)
 |fn f c vs hl hr ih=>exact .fn _ _ _ (F c ih)
 |agg c vs hl hr ih=>exact .agg _ _ (F c ih)
 |tup c vs hl hr ih=>exact .tup _ _ (F c ih)
theorem aMG {h:Name->Option Blk}{x:AV}{v:Value} (H:RV S w ρ κ h x v):Nm (λ_=>True) x:=by
 have F:∀(c:List AV),(∀j,j<c.length->Nm (λ_=>True) (c.getD j .junk))->∀y,y∈c->Nm (λ_=>True) y:=by
  intro c J y L;obtain⟨j,I,rfl⟩:=List.mem_iff_getElem.1 L;have:=J j I;simpa[List.getD,I] using this
 induction H with
 |junk v=>exact .junk _
 |clo H=>exact(aMI H).mono λ_ h=>h.elim
 |loc n off len v hv=>exact .loc _ _ _ _ trivial
 |ptr n e c v hv=>exact .ptr _ _ _ _ trivial
 |fn f c vs hl hr ih=>exact .fn _ _ _ (F c ih)
 |agg c vs hl hr ih=>exact .agg _ _ (F c ih)
 |tup c vs hl hr ih=>exact .tup _ _ (F c ih)
theorem OK.wf {σ:FSt} (F:OK C σ a w S ρ κ):WF σ:=by
 refine⟨λt=>aMG (F.slots t),λn b L=>?_⟩;have H:=F.hok.blk n b L;cases b with
 | var c z =>
  obtain⟨x,cs,T,fr,_,_,_,_,_,_,_,J⟩:=H;intro y O
  all_goals grind [List.mem_iff_getElem.1,aMG]
 | arr k l z =>
  obtain⟨U,⟨_,rfl⟩|⟨x,cs,T,fr,_,_,_,_,_,_,_,J⟩⟩:=H
  .intro r I;cases I
  .intro r I y O
   all_goals grind [List.mem_iff_getElem.1,aMI]
theorem Nm.and {p q:Name->Prop}{x:AV} (F:Nm p x) (H:Off (λn=>¬q n) x):Nm (λn=>p n∧q n) x:=by
 induction F with
 |junk=>exact .junk _
 |v=>exact .v _ _
 |sl _ k l hl _=>exact .sl _ k l hl
 |ro _ c hc _=>exact .ro _ c hc
 |loc _ n off len hn=>exact .loc _ n off len ⟨hn,Classical.not_not.1 H.loc⟩
 |ptr _ n e c hn=>exact .ptr _ n e c ⟨hn,Classical.not_not.1 H.ptr⟩
 |fn _ f c hc ih=>exact .fn _ f c λx F=>ih x F (H.fn.mem x F)
 |agg _ c hc ih=>exact .agg _ c λx F=>ih x F (H.agg.mem x F)
 |tup _ c hc ih=>exact .tup _ c λx F=>ih x F (H.tup.mem x F)
theorem aDl.mem {N:Name->Prop}{c:List AV}{z:Bool} (H:aDl N (.var c z)):dJ N c:=λn F=>H n F
theorem NmB.and {p q:Name->Prop}{b:Blk} (H:NmB p b) (I:aDl (λn=>¬q n) b):NmB (λn=>p n∧q n) b:=by
 cases b with
 |var c z=>exact λx F=>(H x F).and (I.mem.mem x F)
 |arr k l z=>exact H
theorem NmB.frz {p:Name->Prop}{b F:Blk} (H:frz F=frz b) (I:NmB p b):NmB p F:=by
 grind [Vs.frz,NmB,Blk]
theorem Eff.move {d:Option Nat}{op:AOp}{σ σ':FSt}{δ:Dl}{N:Name->Prop} (he:Eff P d op σ δ) (hc:qG op=true)
  (J:∀o,o∈aM op->evO σ.s o=evO σ'.s o∧Off N (evO σ.s o)) (U:Agr N σ.h σ'.h) (hb:∀n b,¬N n->σ.h n=some b->aDl N b)
  (hf:∀n,δ.nn n->gP n σ'):Eff P d op σ' δ:=by
 cases he with
 | rd v h1 h2 h3 =>
  refine .rd v h1 (λK Y=>aNa U J (h2 K Y)) λp hp hh=>?_;have e:(λn=>¬¬N n)=N:=funext λn=>propext Classical.not_not;have:=h3 (λn=>p n∧¬N n) (λo F=>?_) (λn b O I=>?_)
  .exact this.mono λn h=>h.1
  .obtain⟨e1,e2⟩:=J o F;refine Nm.and ?_ (by rw[e];exact e2);rw[e1];exact hp o F
  .obtain⟨b',h4,h5⟩:=U.some O.2 I;refine NmB.and (NmB.frz h5.symm (hh n b' O.1 h4)) (by rw[e];exact hb n b O.2 I)
 | al d' hd v b h1 hf' O h2 h3 =>
  refine .al d' hd v b (λK Y=>aNL U ?_ ?_ ?_ J (h1 K Y)) (hf _ rfl) O h2 λN' Z=>h3 N' λo F=>by rw[(J o F).1];exact Z o F
  all_goals grind [aGo,qG,okZ]
 | call d' hd f args hop g caps hg ys L F r hout fz hfn hflat hfr =>
  subst hop;have⟨ef,of⟩:=J f (by simp[aM]);rw[hg] at of;have H:args.map (evO σ.s)=args.map (evO σ'.s):=List.map_congr_left λo F=>(J o (by simp[aM,F])).1;refine .call d' hd f args rfl g caps (by rw[←ef];exact hg) ys L ?_ r hout fz hfn hflat λj hj=>?_
  .rw[←H,←aCN (f:=conv σ.h 8 [] false) λx I=>?_]
   .exact F
   .refine(aGg U hb 8 false x ?_).1;rcases List.mem_append.1 I with I|I
    .grind [aM]
    .exact of.fn.mem x I
  .exact hf _ ⟨j,hj,rfl⟩
theorem Eff.new {d:Option Nat}{op:AOp}{σ:FSt}{δ:Dl} (I:Eff P d op σ δ):(∀n,δ.nn n->∃d' j,d=some d'∧n=.t d' j∧gP n σ)∧∀n b,aB δ.nb n=some b->δ.nn n:=by
 cases I with
 |rd v h1 h2 h3=>exact⟨λn H=>H.elim,λn b F=>by simp[aB] at F⟩
 | al d' hd v b h1 hf' H h2 h3 =>
  grind [aB]
 | call d' hd f args hop g caps hg ys L hm r hout fz hfn hflat hfr =>
  refine⟨λn ⟨j,hj,e⟩=>⟨d',j,hd,e,by rw[e];exact hfr j hj⟩,λn b F=>?_⟩;rw[zW] at F;cases n with
  |b j=>simp[xO] at F
  | t d'' j =>
   grind [xO]
theorem aLC {N:Name->Prop}{φ:Name->Option Name} (H:∀n m,N n->φ m≠some n) (b:Blk):aDl N (rnB φ b):=by
 cases b with
 |var c z=>exact λn F=>aAv φ n (λm=>H n m F) c
 |arr k l z=>exact λn F=>rfl
theorem yP {g:Blk->Blk}{d nB:Nat}:∀{l:List (Option Blk)}{i:Nat}{n:Name}{b:Blk},(n,b)∈rV g d nB i l->∃F,b=g F
 | [],_,_,_,h=>by simp[rV] at h
 |none::r,i,n,b,h=>yP (l:=r) (i:=i+1) (by simpa[rV] using h)
 | some x::r,i,n,b,h=>by
  simp only[rV] at h;split at h
  .rcases List.mem_cons.1 h with h|h
   .grind
   .exact yP h
  .exact yP h
theorem Eff.off {d:Option Nat}{op:AOp}{σ:FSt}{δ:Dl}{N:Name->Prop} (he:Eff P d op σ δ) (hN:∀n,δ.nn n->¬N n) (Y:∀d' j,d=some d'->¬N (.t d' j)) (Z:WF σ)
  (U:∀o,o∈aM op->Off N (evO σ.s o)) (J:∀n b,¬N n->σ.h n=some b->aDl N b) :
  Off N δ.v∧(∀n b,aB δ.nb n=some b->aDl N b)∧∀n,n∈δ.L->¬N n:=by
 have I:∀o,Nm (λ_=>True) (evO σ.s o):=by
  intro o;cases o with
  |tmp t=>exact Z.s t
  | const v =>
   simp only[evO]
   cases v<;>first
    |exact .v _ _
    | (simp only[AV.ofValue]
       refine .agg _ _ λx F=>?_;obtain⟨y,_,rfl⟩:=List.mem_map.1 F;exact .v _ _)
  |global g=>exact .junk _
  |func f=>exact .fn _ _ _ (by simp)
 cases he with
 | rd v h1 h2 h3 =>
  refine⟨?_,λn b J=>by simp[aB] at J,by simp⟩;have:=h3 (λn=>¬N n) (λo O=>(I o).of_off (U o O)) λn b H F=>?_
  .exact this.off λn H=>H
  .have e:(λn=>¬¬N n)=N:=funext λn=>propext Classical.not_not;have:=NmB.and (q:=λn=>¬N n) (Z.h n b F) (by rw[e];exact J n b H F)
   all_goals grind
 | al d' hd v b h1 hf' H h2 h3 =>
  grind [aB]
 | call d' hd f args hop g caps hg ys L O r hout fz hfn hflat hfr =>
  subst hop
  have hφ:∀n m,N n->phi [] d' hout.length m≠some n:=by
   grind [phi,Name]
  refine⟨λn H=>aJ4 _ n (λm=>hφ n m H) r,λn b F=>?_,λn H=>?_⟩
  .obtain⟨b',rfl⟩:=yP (oC _ _ _ F);exact aLC hφ b'
  .have of:=U f (by simp[aM]);rw[hg] at of;refine zQ (λn=>¬N n) (λx F y L' hc=>?_) O n H;refine(aGg (h':=σ.h) (λ_ _=>rfl) J 8 false x ?_).2 y L' hc;rcases List.mem_append.1 F with F|F
   .grind [aM]
   .exact of.fn.mem x F
theorem zL (d:Option Nat) (δ:Dl) (σ:FSt) (n:Name):(app d δ σ).h n=(aB δ.nb n).or ((σ.h n).map λb=>if δ.fz=true∧n∈δ.L then frz b else b):=rfl
theorem aNu (b:Blk) (p:Prop) [Decidable p]:frz (if p then frz b else b)=frz b:=by
 split
 .cases b<;>rfl
 .rfl
theorem aIs {d:Option Nat}{δ:Dl}{σ:FSt} (F:∀n b,aB δ.nb n=some b->δ.nn n):Agr δ.nn σ.h (app d δ σ).h:=by
 intro n h;rw[zL];cases hx:aB δ.nb n with
 |some b=>exact absurd (F n b hx) h
 | none =>
  rw[Option.none_or];cases σ.h n with
  |none=>rfl
  |some b=>simp only[Option.map_some,aNu]
theorem qH {d:Option Nat}{δ:Dl}{σ:FSt}{t:Nat} (h:d≠some t):(app d δ σ).s t=σ.s t:=by
 cases d with
 |none=>rfl
 | some d =>
  grind [app,upd]
theorem pR {d:Nat}{δ:Dl}{σ:FSt}:(app (some d) δ σ).s d=δ.v:=by simp[app,upd]
theorem aCd {d:Option Nat}{δ:Dl}{σ:FSt}{o:Operand} (h:∀t,d=some t->o≠.tmp t):evO (app d δ σ).s o=evO σ.s o:=by
 grind [evO,qH,Operand]
theorem gP.off {n:Name}{σ:FSt} (h:gP n σ) (o:Operand):(evO σ.s o).has n=false:=by
 cases o with
 |tmp t=>exact h.2.1 t
 | const v =>
  simp only[evO]
  cases v<;>first
   |rfl
   | (simp only[AV.ofValue,AV.has]
      have:dJ (λm=>m=n) (List.map (λx=>AV.v x) (Array.toList ‹_›)):=dJ.of_mem λx F=>by
        grind [Off.v]
      exact this n rfl)
 |global g=>rfl
 |func f=>rfl
theorem aG4 (b:Blk) (p:Prop) [Decidable p] (n:Name):(if p then frz b else b).has n=b.has n:=by
 grind [aMd,Blk,frz]
theorem aKV {U O:Option Nat}{x y:AOp}{σ:FSt}{H J:Dl} (hx:Eff P U x σ H) (hy:Eff P O y (app U H σ) J) (hs:WF σ) (fx:qG x=true) (fy:qG y=true)
  (a1:∀t,U=some t->∀o,o∈aM y->o≠.tmp t) (a2:∀t,O=some t->∀o,o∈aM x->o≠.tmp t) (a3:∀t,U=some t->O≠some t)
  (j1:∀t,U=some t->σ.s t=.junk) (j2:∀t,O=some t->σ.s t=.junk) :
  Eff P O y σ J∧Eff P U x (app O J σ) H∧app U H (app O J σ)=app O J (app U H σ):=by
 obtain⟨nx,bx⟩:=hx.new;obtain⟨ny,hc⟩:=hy.new
 have Z:∀n,H.nn n->¬J.nn n:=by
  grind
 have sx:∀o,Off H.nn (evO σ.s o):=λo n I=>by obtain⟨_,_,_,_,Y⟩:=nx n I;exact Y.off o
 have hd:∀n b,σ.h n=some b->aDl H.nn b:=λn b F m hm=>by obtain⟨_,_,_,_,Y⟩:=nx m hm;exact Y.2.2 n b F
 have hg:∀n,H.nn n->σ.h n=none:=λn I=>by obtain⟨_,_,_,_,Y⟩:=nx n I;exact Y.1.1
 have hj:=aIs (d:=U) (σ:=σ) bx
 have ha:∀n,J.nn n->gP n σ:=by
  intro n I;obtain⟨d2,i2,e2,rfl,Y⟩:=ny n I;have hq:¬H.nn (.t d2 i2):=λh=>Z _ h I;refine⟨⟨?_,Y.1.2⟩,λt=>?_,λm b F=>?_⟩
  .have:=Y.1.1;rw[zL] at this;cases hσ:σ.h (.t d2 i2) with
   |none=>rfl
   |some b=>rw[hσ] at this;simp at this
  .by_cases ht:U=some t
   .rw[j1 t ht];rfl
   .have:=Y.2.1 t
    rwa [qH ht] at this
  .have h1:¬H.nn m:=λh=>by rw[hg m h] at F;cases F
   have h2:aB H.nb m=none:=by
    cases h:aB H.nb m with
    |none=>rfl
    |some b=>exact absurd (bx m b h) h1
   have:=Y.2.2 m (if H.fz=true∧m∈H.L then frz b else b) (by rw[zL,h2,F];rfl)
   rwa [aG4] at this
 have hh:Eff P O y σ J:=by
  refine hy.move (N:=H.nn) fy (λo ho=>?_) hj.symm (λn b I F=>?_) ha
  .have e:=aCd (δ:=H) (σ:=σ) (λt ht=>a1 t ht o ho);exact⟨e,by rw[e];exact sx o⟩
  .rw[zL] at F
   have h2:aB H.nb n=none:=by
    cases h:aB H.nb n with
    |none=>rfl
    |some b=>exact absurd (bx n b h) I
   rw[h2,Option.none_or] at F;cases hσ:σ.h n with
   |none=>rw[hσ] at F;cases F
   | some b0 =>
    rw[hσ] at F;obtain rfl:=Option.some.inj F;intro m hm;rw[aG4];exact hd n b0 hσ m hm
 obtain ⟨ov,ob,oL⟩:=hh.off (N:=H.nn) (λn I h=>Z n h I) (λd' j he h=>by
   obtain⟨d1,i1,e1,e2,_⟩:=nx _ h;simp only[Name.t.injEq] at e2;exact a3 d1 e1 (by rw[he,e2.1])) hs (λo _=>sx o) (λn b _ F=>hd n b F)
 have hk:=aIs (d:=O) (σ:=σ) hc;have sy:∀o,Off J.nn (evO σ.s o):=λo n I=>(ha n I).off o
 have hp:Eff P U x (app O J σ) H:=by
  refine hx.move (N:=J.nn) fx (λo ho=>⟨(aCd (δ:=J) (σ:=σ) (λt ht=>a2 t ht o ho)).symm,sy o⟩) hk (λn b _ F m hm=>(ha m hm).2.2 n b F) λn I=>?_;obtain⟨d1,i1,e1,rfl,Y⟩:=nx n I;have hl:=Z _ I;refine⟨⟨?_,Y.1.2⟩,λt=>?_,λm b F=>?_⟩
  .rw[zL,Y.1.1];cases h:aB J.nb (.t d1 i1) with
   |none=>rfl
   |some b=>exact absurd (hc _ b h) hl
  .by_cases ht:O=some t
   .subst ht;rw[pR];exact ov _ I
   .rw[qH ht];exact Y.2.1 t
  .rw[zL] at F;cases h:aB J.nb m with
   | some b' =>
    rw[h] at F;obtain rfl:=Option.some.inj F;exact ob m _ h _ I
   | none =>
    rw[h,Option.none_or] at F;cases hσ:σ.h m with
    |none=>rw[hσ] at F;cases F
    | some b0 =>
     rw[hσ] at F;obtain rfl:=Option.some.inj F;rw[aG4];exact hd m b0 hσ _ I
 refine⟨hh,hp,?_⟩
 obtain ⟨_,_,hr⟩:=hx.off (N:=J.nn) (λn I=>Z n I) (λd' j he h=>by
   obtain⟨d1,i1,e1,e2,_⟩:=ny _ h;simp only[Name.t.injEq] at e2;exact a3 d' he (by rw[e1,e2.1])) hs (λo _=>sy o) (λn b _ F m hm=>(ha m hm).2.2 n b F)
 have e1:(app U H (app O J σ)).s=(app O J (app U H σ)).s:=by
  funext t
  by_cases h1:U=some t
  .grind [pR,qH]
  .by_cases h2:O=some t
   all_goals grind [qH,pR]
 have e2:(app U H (app O J σ)).h=(app O J (app U H σ)).h:=by
  funext n
  simp only[zL];cases h1:aB H.nb n with
  | some b1 =>
   have I:=bx n b1 h1
   have h2:aB J.nb n=none:=by
    cases h:aB J.nb n with
    |none=>rfl
    |some b=>exact absurd (hc n b h) (Z n I)
   all_goals grind
  | none =>
   cases h2:aB J.nb n with
   | some b2 =>
    grind
   | none =>
    simp only[Option.none_or];cases σ.h n with
    |none=>rfl
    | some b =>
     grind
 all_goals grind [app]
end
section
variable [Envs]
variable {P:Program}{C:Ctx}{a:Act}{w:World}{S:Nat->Prop}{ρ:Name->Option Nat}{κ:Name->Nat}
theorem aIo {b c:Bool} (h:b≠c):b = !c:=by cases b<;>cases c<;>simp at h<;>rfl
def dX (o:aJ):Bool:=qG o.op&&(wH o.op||o.dst.isSome)
def aHK:AOp:=.mv (.const (.tuple #[]))
def aCB (b:Bool) (o:aJ):AOp:=if b then o.op else aHK
def EffS (P:Program) (b:Bool) (o:aJ) (σ:FSt) (δ:Dl):Prop:=Eff P o.dst (aCB b o) σ δ
def runs (o:aJ) (σ:FSt) (b:Bool):Prop:=
 match o.guard with
 |none=>b=true
 |some (g,want)=>(∃c,σ.s g=.v (.bool c)∧b=(c==want))∨((∃cs,σ.s g=.v (.tuple cs))∧b=false)
def yE (P:Program) (o:aJ) (σ:FSt) (δ:Dl):Prop:=∃b,runs o σ b∧EffS P b o σ δ
def aCQ (d:Option Nat) (σ σ':St):Prop:=∀t,d≠some t->look σ.s t=.junk->look σ'.s t=.junk
def vcE (P:Program) (K:FSt->Prop):List aJ->FSt->Prop
 | [],σ=>K σ
 | o::r,σ=>if dX o=true then ∃δ,yE P o σ δ∧vcE P K r (app o.dst δ σ)
  else ∃σl:St,σl.f=σ∧vc P (fun σ'=>vcE P K r σ'.f∧aCQ o.dst σl σ') [o] σl
theorem uX (d:Option Nat) (x:AV) (σ:St) (h:List (Name×Blk)):aCQ d σ ⟨put d x σ.s,h⟩:=by
 intro t H F;show look (put d x σ.s) t=_
 rw[jU];cases d with
 |none=>exact F
 | some d =>
  grind [upd]
theorem aGH {d:Option Nat}{σ:St}{K:St->Prop}{op:AOp} (F:bC P d σ K op):bC P d σ (fun σ'=>K σ'∧aCQ d σ σ') op:=by
 by_cases hr:wH op=true
 .grind [aAh,uX]
 .have H:∀{op:AOp}{d':Nat},al (evO (look σ.s)) (aB σ.h) (.t d' 0) (λv b=>(bX (.t d' 0) σ=true∧b.has (.t d' 0)=false)∧K ⟨(d',v)::σ.s,(.t d' 0,b)::σ.h⟩) op->
    al (evO (look σ.s)) (aB σ.h) (.t d' 0) (λv b=>(bX (.t d' 0) σ=true∧b.has (.t d' 0)=false)∧K ⟨(d',v)::σ.s,(.t d' 0,b)::σ.h⟩∧aCQ (some d') σ ⟨(d',v)::σ.s,(.t d' 0,b)::σ.h⟩) op:=by
   intro op d' F;obtain⟨x,b,⟨I,J⟩,L,_⟩:=yD F;exact L _ ⟨I,J,uX (some d') _ _ _⟩
  cases op
  case box x=>cases d with
   |none=>exact F
   |some d=>exact H (op:=.box x) (d':=d) F
  case alloc z=>cases d with
   |none=>exact F
   |some d=>exact H (op:=.alloc z) (d':=d) F
  case bslice k m z ps=>cases d with
   |none=>exact F
   |some d=>exact H (op:=.bslice k m z ps) (d':=d) F
  case mk k y z n=>cases d with
   |none=>exact F
   |some d=>exact H (op:=.mk k y z n) (d':=d) F
  case call f args bor =>
   simp only[bC,aDd] at F⊢;split at F
   .split at F
    .obtain⟨I,r,U,fz,h2,J,L,Z⟩:=F;exact⟨I,r,U,fz,h2,J,L,Z,uX _ _ _ _⟩
    .exact F
   .exact F
  all_goals try grind [bC,aCQ,uX]
  case append k y A X =>
   cases d with
   |none=>exact F
   | some d =>
    simp only[bC] at F⊢;split at F
    .rename_i on l Y _ _;refine⟨F.1,F.2,λt ht O=>?_⟩
     have e:look ((d,AV.loc (.t d 0) 0 (l.length+Y.length))::(aP on σ).s) t=look (aP on σ).s t:=by
      grind [look]
     show look ((d,AV.loc (.t d 0) 0 (l.length+Y.length))::(aP on σ).s) t=_
     rw[e];cases on with
     |none=>exact O
     | some n =>
      simp only[aP,eU];rw[mQ (scr n) (by simp[scr,AV.has]),O];simp[scr,AV.has]
    .exact F
  case appendC k y A X =>
   cases d with
   |none=>exact F
   | some d =>
    simp only[bC] at F⊢;split at F
    .rename_i on l Y _ _;refine⟨F.1,F.2,λt ht O=>?_⟩
     have e:look ((d,AV.sl k (l++Y))::(aP on σ).s) t=look (aP on σ).s t:=by
      grind [look]
     show look ((d,AV.sl k (l++Y))::(aP on σ).s) t=_
     rw[e];cases on with
     |none=>exact O
     | some n =>
      simp only[aP,eU];rw[mQ (scr n) (by simp[scr,AV.has]),O];simp[scr,AV.has]
    .exact F
  case bsliceC k m z ps=>cases d with
   |none=>exact F
   | some d =>
    simp only[bC] at F⊢;obtain⟨x,b,⟨I,rows,h2,J,L⟩,Z,_⟩:=yD (op:=.bslice k m z ps) F;exact Z _ ⟨I,rows,h2,J,L,uX (some d) _ _ _⟩
  all_goals simp[wH] at hr
theorem aCl {o:aJ}{σ:St}{K:St->Prop} (F:vc P K [o] σ):vc P (fun σ'=>K σ'∧aCQ o.dst σ σ') [o] σ:=by
 simp only[vc] at F⊢
 all_goals grind [aGH,kQ,uX,St]
theorem aGG {d:Option Nat}{σ:St}{K J:St->Prop} (Y:∀σ,K σ->J σ) {op:AOp} (F:bC P d σ K op):bC P d σ J op:=by
 by_cases hr:wH op=true
 .grind [aAh,aCt]
 .have H:∀{op:AOp}{d':Nat},al (evO (look σ.s)) (aB σ.h) (.t d' 0) (λv b=>(bX (.t d' 0) σ=true∧b.has (.t d' 0)=false)∧K ⟨(d',v)::σ.s,(.t d' 0,b)::σ.h⟩) op->
    al (evO (look σ.s)) (aB σ.h) (.t d' 0) (λv b=>(bX (.t d' 0) σ=true∧b.has (.t d' 0)=false)∧J ⟨(d',v)::σ.s,(.t d' 0,b)::σ.h⟩) op:=by
   intro op d' F;obtain⟨x,b,⟨L,O⟩,U,_⟩:=yD F;exact U _ ⟨L,Y _ O⟩
  cases op
  case box x=>cases d with
   |none=>exact F
   |some d=>exact H (op:=.box x) (d':=d) F
  case alloc z=>cases d with
   |none=>exact F
   |some d=>exact H (op:=.alloc z) (d':=d) F
  case bslice k m z ps=>cases d with
   |none=>exact F
   |some d=>exact H (op:=.bslice k m z ps) (d':=d) F
  case mk k y z n=>cases d with
   |none=>exact F
   |some d=>exact H (op:=.mk k y z n) (d':=d) F
  case call f args bor =>
   simp only[bC,aDd] at F⊢;split at F
   .split at F
    .obtain⟨L,r,I,fz,h2,O,U,Z⟩:=F;exact⟨L,r,I,fz,h2,O,U,Y _ Z⟩
    .exact F
   .exact F
  all_goals try grind [bC]
  case append k y A X =>
   cases d with
   |none=>exact F
   | some d =>
    grind [bC]
  case appendC k y A X =>
   cases d with
   |none=>exact F
   | some d =>
    grind [bC]
  case bsliceC k m z ps=>cases d with
   |none=>exact F
   | some d =>
    grind [bC,yD]
  all_goals simp[wH] at hr
theorem aAb {o:aJ}{σ:St}{K F:St->Prop} (I:∀σ,K σ->F σ) (H:vc P K [o] σ):vc P F [o] σ:=by
 simp only[vc] at H⊢;split at H
 all_goals grind [aGG,kQ]
theorem aEk {o:aJ}{r:List aJ}{σ:St}{K:St->Prop}:vc P K (o::r) σ↔vc P (vc P K r) [o] σ:=Iff.rfl
theorem aJr {K:St->Prop}:∀(ops:List aJ) (σ:St),vc P K ops σ->vcE P (λf=>∃σ':St,σ'.f=f∧K σ') ops σ.f
 | [],σ,hv=>⟨σ,rfl,hv⟩
 | o::r,σ,hv=>by
  have Z:=aJr (K:=K) r;simp only[vcE];split
  .rename_i U;simp only[dX,Bool.and_eq_true,Bool.or_eq_true] at U
   have run:bC P o.dst σ (vc P K r) o.op->∃δ,Eff P o.dst o.op σ.f δ∧vcE P (λf=>∃σ':St,σ'.f=f∧K σ') r (app o.dst δ σ.f):=λY=>by
    obtain⟨δ,F,σ',h2,O⟩:=aBH U.1 U.2 Y;exact⟨δ,F,by rw[←h2];exact Z σ' O⟩
   have skip:vc P K r ⟨put o.dst (.v (.tuple #[])) σ.s,σ.h⟩->∃δ,Eff P o.dst aHK σ.f δ∧vcE P (λf=>∃σ':St,σ'.f=f∧K σ') r (app o.dst δ σ.f):=λY=>by
    obtain⟨δ,F,σ',h2,O⟩:=aBH (P:=P) (d:=o.dst) (σ:=σ) (K:=vc P K r) (op:=aHK) rfl (.inl rfl) Y;exact⟨δ,F,by rw[←h2];exact Z σ' O⟩
   simp only[vc] at hv;split at hv
   .rename_i J;obtain⟨δ,F,h2⟩:=run hv;exact⟨δ,⟨true,by simp only[runs,J],F⟩,h2⟩
   .rename_i g I J;split at hv
    .rename_i b L;by_cases H:b=I
     .obtain⟨δ,F,h2⟩:=run ((kQ.1 hv).1 H);exact⟨δ,⟨true,by simp only[runs,J];exact .inl ⟨b,L,by simp[H]⟩,F⟩,h2⟩
     .have hn:b = !I:=aIo H;obtain⟨δ,F,h2⟩:=skip ((kQ.1 hv).2 hn);exact⟨δ,⟨false,by simp only[runs,J];exact .inl ⟨b,L,by simp[H]⟩,F⟩,h2⟩
    .rename_i cs L;obtain⟨δ,F,h2⟩:=skip hv;exact⟨δ,⟨false,by unfold runs;rw[J];exact .inr ⟨⟨cs,L⟩,rfl⟩,F⟩,h2⟩
    .exact hv.elim
  .refine⟨σ,rfl,aAb (fun σ' h=>⟨Z σ' h.1,h.2⟩) (aCl (aEk.1 hv))⟩
theorem aJs {o:aJ}{σ:St}{δ:Dl} (I:Canon σ) (O:yE P o σ.f δ):vc P (fun σ'=>σ'.f=app o.dst δ σ.f) [o] σ:=by
 obtain⟨b,F,h2⟩:=O
 have skip:b=false->(⟨put o.dst (.v (.tuple #[])) σ.s,σ.h⟩:St).f=app o.dst δ σ.f:=by
  rintro rfl;exact xE I h2
 simp only[vc];unfold runs at F;split
 .rename_i H;rw[H] at F;simp only at F;subst F;exact xE I h2
 .rename_i g J H;rw[H] at F;rcases F with⟨c,e,rfl⟩|⟨⟨cs,e⟩,L⟩
  .simp only[show look σ.s g=_ from e]
   all_goals grind [kQ.2,aCB,EffS,xE]
  .simp only[show look σ.s g=_ from e];exact skip L
theorem aHT {ops:Array Oper}{Q:Exit->Act->World->Prop}{K:St->Prop}{i:Nat}{o:Oper}{ao:aJ} (ho:ops[i]? = some o) (hc:nD P C.nt ops o=some ao.bare) {σ:St} (J:vc P K [ao] σ) (F:OK C σ.f a w S ρ κ) :
  wpOp P ops Q i (bV C K) a w:=by
 obtain⟨h1,h2,O,h4⟩:=iO hc;have go:bC P ao.dst σ K ao.op->o.wp P a w (bV C K) Q:=λY=>vY (P:=P) h1 F O (by rw[h2];exact Y);unfold wpOp;rw[ho];simp only[vc] at J;rcases h4 with⟨L,g2⟩|⟨j,H,t,L,g2,g3⟩
 .grind [Region.wanted]
 .rw[g2] at J;simp only at J;split at J
  .rename_i b U;have Z:=yG F L g3 U;simp only[Z];by_cases I:b=H
   .simp only[I,beq_self_eq_true,if_true];exact .inl (go ((kQ.1 J).1 I))
   .have:(b==H)=false:=by simpa using I
    simp only[this,Bool.false_eq_true,if_false];have hn:b = !H:=aIo I;refine⟨_,S,ρ,κ,(kQ.1 J).2 hn,?_⟩;have:=F.put (x:=.v undef) (v:=undef) (.clo (.v _)) O
    all_goals grind [St.f,jU,undef]
  .rename_i cs U;have Z:=yF F L g3 U;simp only[Z,Bool.false_eq_true,if_false];refine⟨_,S,ρ,κ,J,?_⟩;have:=F.put (x:=.v undef) (v:=undef) (.clo (.v _)) O
   all_goals grind [St.f,jU,undef]
  .exact J.elim
theorem aHw {ops:Array Oper}{K:Act->World->Prop}{i:Nat} (h:wpOp P ops (λ_ _ _=>False) i K a w):∃H w',K H w':=by
 unfold wpOp at h;split at h
 .exact⟨_,_,h⟩
 .split at h
  .rcases h with h|⟨_,_,_,h⟩
   .rename_i o _ _;unfold Oper.wp at h;generalize(execOp a.eval o).run P w=r at h;cases r with
    | ok n w' =>
     cases n<;>simp only[Oper.upon] at h
     case enter f args =>
      obtain⟨e,F,fr,h,_⟩:=h [];cases e with
      |returned v=>exact⟨_,_,h⟩
      |panicked ch=>exact h.elim
      |outgrown=>obtain⟨_,_,h⟩:=h;exact h.elim
     case row row args =>
      obtain⟨v,F,h,_⟩:=h (Frame.enter P 0 #[] .normal) [];exact⟨_,_,h⟩
     all_goals exact⟨_,_,h⟩
    |halt x w'=>cases x<;>simp only[Oper.upon] at h
   .exact h.elim
  .exact⟨_,_,h⟩
end
end Go.Vs
