/- From the statement's arguments to closed values, and from a contract to the statement's answer. -/
import Derived.Test.YtklmdppgonhflaaGreatDoorVsZ
import GoSem.ClaimJoined
import Derived.ProofKit
import Derived.JoinedOf
set_option linter.all false
set_option maxHeartbeats 8000000
namespace Go.Vs
variable [Envs]
open Go.ChangeShapes Go.RowKit
variable {P:Program}
def Opens (P:Program) (t:TypeId) {α:Type} (k:Nat) (e:α->List AV):Prop:=
 P.cellsOf t=k∧(∀a,(e a).length=k)∧∀(H:Type) (enc:TypeId×Value->H) (w:World) (sp:Nat->Bool) (fuel:Nat) (cs:List Value) (x:DataW H×List MemPlace),
  DataW.trod enc P w 0 sp true fuel t cs=some x->∃a,cs.length=k∧∀j,j<k->(cs.getD j undef).oneCell'=true∧RC (λb=>b<w.heap.size) w ((e a).getD j .junk) (cs.getD j undef)
theorem Opens.int {t:TypeId}{F:IntKind} (h:P.underlying t=some (.int F)) (G:P.cellsOf t=1) :
  Opens P t 1 (λn:{n:Int // (Lit.int F n).wf=true}=>[.v (.int F n.1)]):=by
 refine⟨G,λ_=>rfl,λH enc w O fuel cs x J=>?_⟩;obtain⟨n,rfl,_,I⟩:=DataW.trod_int h J;refine⟨⟨n,I⟩,rfl,λj M=>?_⟩;obtain rfl:j=0:=by omega
 exact⟨rfl,.v _⟩
theorem aCs {α:Type} (p:Nat->α->Prop):∀n,(∀i,i<n->∃a,p i a)->∃l:List α,l.length=n∧∀(i:Nat) (a:α),l[i]? = some a->p i a
 |0,_=>⟨[],rfl,by simp⟩
 | n+1,h=>by
  obtain⟨l,F,h2⟩:=aCs p n λi hi=>h i (by omega);obtain⟨a,G⟩:=h n (by omega);refine⟨l++[a],by simp[F],λi b H=>?_⟩
  all_goals grind
theorem Opens.slice {t u:TypeId}{α:Type}{k:Nat}{e:α->List AV} (h:P.underlying t=some (.slice u)) (hc:P.cellsOf t=1) (hk:0<k) (he:Opens P u k e) :
  Opens P t 1 (λl:{l:List α // l.length<2 ^ 63}=>[.sl k (l.1.map e)]):=by
 obtain⟨g1,g2,g3⟩:=he;refine⟨hc,λ_=>rfl,λH enc w sp fuel cs x hx=>?_⟩;rcases DataW.trod_slice h hx with⟨rfl,_⟩|⟨A,len,cap,G,ho,n,rfl,rfl,rfl,_,ht,V,hq,Y,_⟩
 .refine⟨⟨[],by simp⟩,rfl,λj F=>?_⟩;obtain rfl:j=0:=by omega
  exact⟨rfl,.sl k [] none 0 0 0 (λ_=>undef) (by simp) (by simp) (by simp) (by simp) (by simp) ⟨by simp,by decide⟩⟩
 .have hm:∀i,i<len->∃a,∃cs,w.cells? 0 (A.add (i*k)) k=some cs∧∀j,j<k->(cs.getD j undef).oneCell'=true∧RC (λb=>b<w.heap.size) w ((e a).getD j .junk) (cs.getD j undef):=by
   intro i hi;have h1:=Y i hi;rw[g1] at h1;have:i<G.length:=by omega
   rw[Ba this] at h1;obtain⟨cs,h2,h3⟩:=A7.1 h1;obtain⟨a,_,h4⟩:=g3 H enc w sp n cs _ h3;exact⟨a,cs,h2,h4⟩
  obtain⟨l,hl,hp⟩:=aCs _ len hm;have hn:len<2 ^ 63:=by simp only[maxLen] at V;omega
  refine⟨⟨l,by omega⟩,rfl,λj F=>?_⟩;obtain rfl:j=0:=by omega
  refine⟨rfl,?_⟩;simp only[Ar]
  have J:∀i j,i<len->j<k->w.cell? ⟨A.block,A.off+(i*k+j),A.spot⟩=some ((w.cell? ⟨A.block,A.off+(i*k+j),A.spot⟩).getD undef)∧A.spot=none∧
    ((w.cell? ⟨A.block,A.off+(i*k+j),A.spot⟩).getD undef).oneCell'=true∧∃a,l[i]? = some a∧RC (λb=>b<w.heap.size) w ((e a).getD j .junk) ((w.cell? ⟨A.block,A.off+(i*k+j),A.spot⟩).getD undef):=by
   intro i j hi F;obtain⟨a,ha⟩:∃a,l[i]? = some a:=⟨l[i],by simp[show i<l.length by omega]⟩
   have O:A.spot=none:=by
    obtain⟨a0,I⟩:∃a,l[0]? = some a:=⟨l[0],by simp[show 0<l.length by omega]⟩;obtain⟨hd,h0,_⟩:=hp 0 a0 I;obtain⟨_,hr,hf⟩:=World.cells?_some h0;have:=hf 0 hk;simp only[Nat.zero_mul,Addr.add,Bj] at this;rw[Ba (by omega)] at this;unfold World.cell? at this;split at this
    .split at this
     .cases this
     .rename_i hs;simpa using hs
    .cases this
   obtain⟨cs,h2,h4⟩:=hp i a ha;obtain⟨_,h5,h6⟩:=World.cells?_some h2;have U:=h6 j F
   have e1:(A.add (i*k)).add j=⟨A.block,A.off+(i*k+j),A.spot⟩:=by
    obtain⟨b,o,s⟩:=A
    all_goals grind [Addr.add]
   rw[e1] at U;have hg:cs[j]? = some (cs.getD j undef):=by simp[List.getD,show j<cs.length by omega]
   rw[U,hg];exact⟨rfl,O,(h4 j F).1,a,ha,(h4 j F).2⟩
  have hS:l≠[]->A.block<w.heap.size:=by
   intro M;have:0<len:=by rw[←hl];exact BX.2 M
   obtain⟨a0,I⟩:∃a,l[0]? = some a:=⟨l[0],by simp[show 0<l.length by omega]⟩;obtain⟨hd,h0,_⟩:=hp 0 a0 I;have:=World.cells?_block h0 hk;simpa[Addr.add] using this
  have hb:RC (λb=>b<w.heap.size) w (.sl k (l.map e)) (.slice (some A) (l.map e).length cap):=by
   refine .sl k _ _ cap A.block A.off (λm=>(w.cell? ⟨A.block,A.off+m,A.spot⟩).getD undef) (λM=>?_) (λi j hi F=>?_) (λi j hi F=>?_) (λi j hi F=>?_) (λi hi=>?_) ⟨by simp;omega,by simp only[maxLen] at V;omega⟩
   .have Z:l≠[]:=by rintro rfl;exact M rfl
    have:0<len:=by rw[←hl];exact BX.2 Z
    have hs:=(J 0 0 this hk).2.1;obtain⟨b,o,s⟩:=A
    all_goals grind
   all_goals grind
  have e3:(l.map e).length=len:=by simp[hl]
  rw[e3] at hb;exact hb
theorem aHx {W F:World} (H:F.os=W.os∧F.output=W.output) (h:∀b,b<W.heap.size->F.heap[b]? = W.heap[b]?) (G:MemPlace->Prop):W.keptBut F G:=by
 refine⟨H.1,H.2,λi hi=>?_⟩
 all_goals grind
theorem aAP {H:Type}{enc:TypeId×Value->H} (M:laidOutB P=true) {W I:World} (h:∀b,b<W.heap.size->I.heap[b]? = W.heap[b]?) :
  ∀ {ts:List TypeId}{vs:List Value}{G:List (DataW H)}{p:List MemPlace},(∀t,t∈ts->P.readableRec t=true∧t<P.types.size)->DataW.TrodAll enc P W 0 (λ_=>true) true ts vs G p->(∀x,x∈p->x.block<W.heap.size)->
   DataW.TrodAll enc P I 0 (λb=>decide (b<W.heap.size)) true ts vs G p
 | [],[],[],p,_,hA,_=>hA
 | t::ts,v::vs,d::G,p,ht,⟨a,b,h1,h2,e⟩,hp=>by
  subst e;refine⟨a,b,WideElems.Trod_stays M (ht t (by simp)).1 (ht t (by simp)).2 h1 (λx F=>?_) (λx F=>?_),aAP M h (λu O=>ht u (by simp[O])) h2 (λx F=>hp x (by simp[F])),rfl⟩
  .have J:=hp x (by simp[F]);cases x with
   |cell b off=>exact cell?_of_block (h b J)
   |map b=>exact h b J
  .simpa using hp x (by simp[F])
 | [],[],_::_,p,_,hA,_=>hA.elim
 | [],_::_,_,p,_,hA,_=>hA.elim
 |_::_,[],_,p,_,hA,_=>hA.elim
 |_::_,_::_,[],p,_,hA,_=>hA.elim
theorem aLj {H:Type}{enc:TypeId×Value->H}{s:ChangeSpec}{fn:Func}{f:FuncId}{W:World}{args:Array Value}{I J:List (DataW H)}{F:List MemPlace}{tb:TypeId}
  (hl:laidOutB P=true) (hm:(fn.params.toList.all λt=>P.readableRec t&&decide (t<P.types.size))=true) (hf:fn.resultTypes=#[tb]) (hk:P.underlying tb=some .bool)
  (hW:DataW.Whole enc P fn.params.toList s.vars false W args.toList I J F) (G:s.vars=[])
  (hs:(s.fn H (I++J)).results=[.lit (.bool true)]∧(s.fn H (I++J)).args=I∧(s.fn H (I++J)).vars=[])
  (M:Env (λb=>b<W.heap.size) W) {xs:List AV} (ha:Fn P f [] xs (.v (.bool true)) []) (hg:args.size=xs.length) (hr:∀j,j<xs.length->RC (λb=>b<W.heap.size) W (xs.getD j .junk) (args.getD j undef)) :
  Calls P f args W λe V=>∃v,e=.returned v∧s.post enc P fn false true false false W args v V:=by
 have hn:∀t,t∈fn.params.toList->P.readableRec t=true∧t<P.types.size:=by
  grind
 have hc:=ha.2 (λb=>b<W.heap.size) W (λ_=>none) (λ_=>0) args ⟨λn b hb=>by cases n<;>simp[Hn] at hb,λn m x h1=>by cases n<;>simp[Hn] at h1,λ_ h=>h,M⟩ (by simp) hg (λj hj=>.clo (hr j hj));refine hc.mono ?_;rintro e V ⟨v,S',ρ',κ',rfl,hpost,hv⟩;refine⟨v,rfl,?_⟩;obtain rfl:v=.bool true:=dD hv;have O:∀b,b<W.heap.size->V.heap[b]? = W.heap[b]?:=λb hb=>hpost.old b hb (by rintro⟨j,hj,_⟩;simp at hj);obtain⟨p,q,hA,Y,U,hd,he⟩:=hW;have Z:J=[]∧q=[]:=by rw[G] at Y;exact trodVars_none Y
 obtain⟨rfl,rfl⟩:=Z;simp only[Be] at U;subst U;refine⟨I,[],F,[],F,[],⟨F,[],hA,Y,by simp,hd,he⟩,?_,?_,?_,aHx hpost.out O _,λh=>by cases h⟩
 .rw[hf,hs.1];exact trodAll_mk1 (shut_bool hk _)
 .grind [aAP,DataW.TrodAll.lt]
 .rw[G,hs.2.2];rfl
theorem aFG {t:TypeId}{α:Type}{e:α->List AV} (F:Opens P t 1 e) {H:Type}{enc:TypeId×Value->H}{W:World}{v:Value}{d:DataW H}{p:List MemPlace} (G:v.cells=#[v])
  (h:DataW.Trod enc P W 0 (λ_=>true) true t v d p):∃a,RC (λb=>b<W.heap.size) W ((e a).getD 0 .junk) v:=by
 grind [Opens,DataW.Trod]
end Go.Vs
