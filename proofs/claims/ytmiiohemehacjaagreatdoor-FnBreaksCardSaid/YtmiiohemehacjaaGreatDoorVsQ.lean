/- From the statement's arguments to closed values, and from a contract to the statement's answer. -/
import Derived.Test.YtmiiohemehacjaaGreatDoorVsZ
import GoSem.ClaimJoined
import Derived.ProofKit
import Derived.JoinedOf
set_option linter.all false
set_option maxHeartbeats 8000000
namespace Go.Vs
variable [Envs]
open Go.ChangeShapes Go.RowKit
variable {P:Program}
def Opens (P:Program) (t:TypeId) {α:Type} (k:Nat) (e:α->List AV):Prop:=
 P.cellsOf t=k∧(∀a,(e a).length=k)∧∀(H:Type) (enc:TypeId×Value->H) (w:World) (sp:Nat->Bool) (fuel:Nat) (cs:List Value) (x:DataW H×List MemPlace),
  DataW.trod enc P w 0 sp true fuel t cs=some x->∃a,cs.length=k∧∀j,j<k->(cs.getD j undef).oneCell'=true∧RC (λb=>b<w.heap.size) w ((e a).getD j .junk) (cs.getD j undef)
theorem Opens.int {t:TypeId}{u:IntKind} (h:P.underlying t=some (.int u)) (F:P.cellsOf t=1) :
  Opens P t 1 (λn:{n:Int // (Lit.int u n).wf=true}=>[.v (.int u n.1)]):=by
 refine⟨F,λ_=>rfl,λH enc w L fuel cs x I=>?_⟩;obtain⟨n,rfl,_,G⟩:=DataW.trod_int h I;refine⟨⟨n,G⟩,rfl,λj J=>?_⟩;obtain rfl:j=0:=by omega
 exact⟨rfl,.v _⟩
theorem Opens.bool {t:TypeId} (h:P.underlying t=some .bool) (u:P.cellsOf t=1):Opens P t 1 (λb:Bool=>[.v (.bool b)]):=by
 refine⟨u,λ_=>rfl,λH enc w I fuel cs x F=>?_⟩;obtain⟨b,rfl,_⟩:=DataW.trod_bool h F;refine⟨b,rfl,λj G=>?_⟩;obtain rfl:j=0:=by omega
 exact⟨rfl,.v _⟩
theorem Opens.string {t:TypeId} (h:P.underlying t=some .string) (u:P.cellsOf t=1):Opens P t 1 (λs:{s:ByteArray // s.size<2 ^ 63}=>[.v (.string s.1)]):=by
 refine⟨u,λ_=>rfl,λH enc w J fuel cs x G=>?_⟩;obtain⟨s,rfl,_,F⟩:=DataW.trod_string h G;refine⟨⟨s,by simp only[maxLen] at F;omega⟩,rfl,λj I=>?_⟩;obtain rfl:j=0:=by omega
 exact⟨rfl,.v _⟩
theorem aB5 {α:Type} (p:Nat->α->Prop):∀n,(∀i,i<n->∃a,p i a)->∃l:List α,l.length=n∧∀(i:Nat) (a:α),l[i]? = some a->p i a
 |0,_=>⟨[],rfl,by simp⟩
 | n+1,h=>by
  obtain⟨l,u,h2⟩:=aB5 p n λi hi=>h i (by omega);obtain⟨a,F⟩:=h n (by omega);refine⟨l++[a],by simp[u],λi b G=>?_⟩
  all_goals grind
theorem Opens.slice {t u:TypeId}{α:Type}{k:Nat}{e:α->List AV} (h:P.underlying t=some (.slice u)) (hc:P.cellsOf t=1) (hk:0<k) (he:Opens P u k e) :
  Opens P t 1 (λl:{l:List α // l.length<2 ^ 63}=>[.sl k (l.1.map e)]):=by
 obtain⟨g1,g2,g3⟩:=he;refine⟨hc,λ_=>rfl,λH enc w sp fuel cs x hx=>?_⟩;rcases DataW.trod_slice h hx with⟨rfl,_⟩|⟨A,len,cap,G,hn,n,rfl,rfl,rfl,_,hr,U,ho,V,_⟩
 .refine⟨⟨[],by simp⟩,rfl,λj F=>?_⟩;obtain rfl:j=0:=by omega
  exact⟨rfl,.sl k [] none 0 0 0 (λ_=>undef) (by simp) (by simp) (by simp) (by simp) (by simp) ⟨by simp,by decide⟩⟩
 .have hg:∀i,i<len->∃a,∃cs,w.cells? 0 (A.add (i*k)) k=some cs∧∀j,j<k->(cs.getD j undef).oneCell'=true∧RC (λb=>b<w.heap.size) w ((e a).getD j .junk) (cs.getD j undef):=by
   intro i hi;have h1:=V i hi;rw[g1] at h1;have:i<G.length:=by omega
   rw[Bf this] at h1;obtain⟨cs,h2,h3⟩:=Ca.1 h1;obtain⟨a,_,h4⟩:=g3 H enc w sp n cs _ h3;exact⟨a,cs,h2,h4⟩
  obtain⟨l,hl,hp⟩:=aB5 _ len hg;have hm:len<2 ^ 63:=by simp only[maxLen] at U;omega
  refine⟨⟨l,by omega⟩,rfl,λj F=>?_⟩;obtain rfl:j=0:=by omega
  refine⟨rfl,?_⟩;simp only[Ak]
  have J:∀i j,i<len->j<k->w.cell? ⟨A.block,A.off+(i*k+j),A.spot⟩=some ((w.cell? ⟨A.block,A.off+(i*k+j),A.spot⟩).getD undef)∧A.spot=none∧
    ((w.cell? ⟨A.block,A.off+(i*k+j),A.spot⟩).getD undef).oneCell'=true∧∃a,l[i]? = some a∧RC (λb=>b<w.heap.size) w ((e a).getD j .junk) ((w.cell? ⟨A.block,A.off+(i*k+j),A.spot⟩).getD undef):=by
   intro i j hi F;obtain⟨a,ha⟩:∃a,l[i]? = some a:=⟨l[i],by simp[show i<l.length by omega]⟩
   have M:A.spot=none:=by
    obtain⟨a0,I⟩:∃a,l[0]? = some a:=⟨l[0],by simp[show 0<l.length by omega]⟩;obtain⟨hb,h0,_⟩:=hp 0 a0 I;obtain⟨_,hq,hd⟩:=World.cells?_some h0;have:=hd 0 hk;simp only[Nat.zero_mul,Addr.add,Bt] at this;rw[Bf (by omega)] at this;unfold World.cell? at this;split at this
    .split at this
     .cases this
     .rename_i hs;simpa using hs
    .cases this
   obtain⟨cs,h2,h4⟩:=hp i a ha;obtain⟨_,h5,h6⟩:=World.cells?_some h2;have O:=h6 j F
   have e1:(A.add (i*k)).add j=⟨A.block,A.off+(i*k+j),A.spot⟩:=by
    obtain⟨b,o,s⟩:=A
    all_goals grind [Addr.add]
   rw[e1] at O;have hf:cs[j]? = some (cs.getD j undef):=by simp[List.getD,show j<cs.length by omega]
   rw[O,hf];exact⟨rfl,M,(h4 j F).1,a,ha,(h4 j F).2⟩
  have hS:l≠[]->A.block<w.heap.size:=by
   intro L;have:0<len:=by rw[←hl];exact BZ.2 L
   obtain⟨a0,I⟩:∃a,l[0]? = some a:=⟨l[0],by simp[show 0<l.length by omega]⟩;obtain⟨hb,h0,_⟩:=hp 0 a0 I;have:=World.cells?_block h0 hk;simpa[Addr.add] using this
  have Z:RC (λb=>b<w.heap.size) w (.sl k (l.map e)) (.slice (some A) (l.map e).length cap):=by
   refine .sl k _ _ cap A.block A.off (λm=>(w.cell? ⟨A.block,A.off+m,A.spot⟩).getD undef) (λL=>?_) (λi j hi F=>?_) (λi j hi F=>?_) (λi j hi F=>?_) (λi hi=>?_) ⟨by simp;omega,by simp only[maxLen] at U;omega⟩
   .have Y:l≠[]:=by rintro rfl;exact L rfl
    have:0<len:=by rw[←hl];exact BZ.2 Y
    have hs:=(J 0 0 this hk).2.1;obtain⟨b,o,s⟩:=A
    all_goals grind
   all_goals grind
  have e3:(l.map e).length=len:=by simp[hl]
  rw[e3] at Z;exact Z
theorem aGK {W u:World} (G:u.os=W.os∧u.output=W.output) (h:∀b,b<W.heap.size->u.heap[b]? = W.heap[b]?) (F:MemPlace->Prop):W.keptBut u F:=by
 refine⟨G.1,G.2,λi hi=>?_⟩
 all_goals grind
theorem aAz {H:Type}{enc:TypeId×Value->H} (M:laidOutB P=true) {W J:World} (h:∀b,b<W.heap.size->J.heap[b]? = W.heap[b]?) :
  ∀ {G:List TypeId}{vs:List Value}{I:List (DataW H)}{p:List MemPlace},(∀t,t∈G->P.readableRec t=true∧t<P.types.size)->DataW.TrodAll enc P W 0 (λ_=>true) true G vs I p->(∀x,x∈p->x.block<W.heap.size)->
   DataW.TrodAll enc P J 0 (λb=>decide (b<W.heap.size)) true G vs I p
 | [],[],[],p,_,hA,_=>hA
 | t::G,v::vs,d::I,p,ht,⟨a,b,h1,h2,e⟩,hp=>by
  subst e;refine⟨a,b,WideElems.Trod_stays M (ht t (by simp)).1 (ht t (by simp)).2 h1 (λx F=>?_) (λx F=>?_),aAz M h (λu O=>ht u (by simp[O])) h2 (λx F=>hp x (by simp[F])),rfl⟩
  .have L:=hp x (by simp[F]);cases x with
   |cell b off=>exact cell?_of_block (h b L)
   |map b=>exact h b L
  .simpa using hp x (by simp[F])
 | [],[],_::_,p,_,hA,_=>hA.elim
 | [],_::_,_,p,_,hA,_=>hA.elim
 |_::_,[],_,p,_,hA,_=>hA.elim
 |_::_,_::_,[],p,_,hA,_=>hA.elim
theorem aJ1 {H:Type}{enc:TypeId×Value->H}{s:ChangeSpec}{fn:Func}{f:FuncId}{W:World}{args:Array Value}{G I:List (DataW H)}{u:List MemPlace}{tb:TypeId}
  (hl:laidOutB P=true) (hk:(fn.params.toList.all λt=>P.readableRec t&&decide (t<P.types.size))=true) (he:fn.resultTypes=#[tb]) (hg:P.underlying tb=some .bool)
  (hW:DataW.Whole enc P fn.params.toList s.vars false W args.toList G I u) (F:s.vars=[])
  (hs:(s.fn H (G++I)).results=[.lit (.bool true)]∧(s.fn H (G++I)).args=G∧(s.fn H (G++I)).vars=[])
  (J:Env (λb=>b<W.heap.size) W) {xs:List AV} (Z:Fn P f [] xs (.v (.bool true)) []) (hf:args.size=xs.length) (hr:∀j,j<xs.length->RC (λb=>b<W.heap.size) W (xs.getD j .junk) (args.getD j undef)) :
  Calls P f args W λe O=>∃v,e=.returned v∧s.post enc P fn false true false false W args v O:=by
 have hm:∀t,t∈fn.params.toList->P.readableRec t=true∧t<P.types.size:=by
  grind
 have hc:=Z.2 (λb=>b<W.heap.size) W (λ_=>none) (λ_=>0) args ⟨λn b Y=>by cases n<;>simp[Hn] at Y,λn m x h1=>by cases n<;>simp[Hn] at h1,λ_ h=>h,J⟩ (by simp) hf (λj hj=>.clo (hr j hj));refine hc.mono ?_;rintro e O ⟨v,S',ρ',κ',rfl,hpost,hv⟩;refine⟨v,rfl,?_⟩;obtain rfl:v=.bool true:=dD hv;have L:∀b,b<W.heap.size->O.heap[b]? = W.heap[b]?:=λb Y=>hpost.old b Y (by rintro⟨j,hj,_⟩;simp at hj);obtain⟨p,q,hA,U,M,ha,hd⟩:=hW;have V:I=[]∧q=[]:=by rw[F] at U;exact trodVars_none U
 obtain⟨rfl,rfl⟩:=V;simp only[AA] at M;subst M;refine⟨G,[],u,[],u,[],⟨u,[],hA,U,by simp,ha,hd⟩,?_,?_,?_,aGK hpost.out L _,λh=>by cases h⟩
 .rw[he,hs.1];exact trodAll_mk1 (shut_bool hg _)
 .grind [aAz,DataW.TrodAll.lt]
 .rw[F,hs.2.2];rfl
theorem aE6 {t:TypeId}{α:Type}{e:α->List AV} (u:Opens P t 1 e) {H:Type}{enc:TypeId×Value->H}{W:World}{v:Value}{d:DataW H}{p:List MemPlace} (F:v.cells=#[v])
  (h:DataW.Trod enc P W 0 (λ_=>true) true t v d p):∃a,RC (λb=>b<W.heap.size) W ((e a).getD 0 .junk) v:=by
 grind [Opens,DataW.Trod]
theorem aL2 {t:TypeId}{α:Type}{k:Nat}{e:α->List AV} (F:Opens P t k e) {H:Type}{enc:TypeId×Value->H}{W:World}{cs:Array Value}{d:DataW H}{p:List MemPlace}
  (h:DataW.Trod enc P W 0 (λ_=>true) true t (.agg cs) d p):∃a,RC (λb=>b<W.heap.size) W (.agg (e a)) (.agg cs):=by
 obtain⟨n,G⟩:=h;obtain⟨a,u,h2⟩:=F.2.2 H enc W _ n _ _ G;simp only[Value.cells,BK] at u;refine⟨a,.agg _ _ (by rw[F.2.1,u]) λj I=>?_⟩
 all_goals grind [Value.cells,Array.getD_eq_getD_getElem?,Opens]
end Go.Vs
