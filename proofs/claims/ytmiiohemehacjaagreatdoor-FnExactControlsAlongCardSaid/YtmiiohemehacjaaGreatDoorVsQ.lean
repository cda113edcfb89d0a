/- From the statement's arguments to closed values, and from a contract to the statement's answer. -/
import Derived.Test.YtmiiohemehacjaaGreatDoorVsS
import GoSem.ClaimJoined
import Derived.ProofKit
import Derived.JoinedOf
set_option linter.all false
set_option maxHeartbeats 8000000
namespace Go.Vs
variable [Envs]
open Go.ChangeShapes Go.RowKit
variable {P:Program}
def bM (P:Program) (t:TypeId) {α:Type} (k:Nat) (e:α->List AV):Prop:=
 P.cellsOf t=k∧(∀a,(e a).length=k)∧∀(H:Type) (enc:TypeId×Value->H) (w:World) (sp:Nat->Bool) (fuel:Nat) (cs:List Value) (x:DataW H×List MemPlace),
  DataW.trod enc P w 0 sp true fuel t cs=some x->∃a,cs.length=k∧∀j,j<k->(cs.getD j undef).oneCell'=true∧RC (λb=>b<w.heap.size) w ((e a).getD j .junk) (cs.getD j undef)
theorem bM.int {t:TypeId}{F:IntKind} (h:P.underlying t=some (.int F)) (I:P.cellsOf t=1) :
  bM P t 1 (λn:{n:Int // (Lit.int F n).wf=true}=>[.v (.int F n.1)]):=by
 refine⟨I,λ_=>rfl,λH enc w U fuel cs x L=>?_⟩;obtain⟨n,rfl,_,J⟩:=DataW.trod_int h L;refine⟨⟨n,J⟩,rfl,λj O=>?_⟩;obtain rfl:j=0:=by omega
 exact⟨rfl,.v _⟩
theorem bM.bool {t:TypeId} (h:P.underlying t=some .bool) (F:P.cellsOf t=1):bM P t 1 (λb:Bool=>[.v (.bool b)]):=by
 refine⟨F,λ_=>rfl,λH enc w L fuel cs x I=>?_⟩;obtain⟨b,rfl,_⟩:=DataW.trod_bool h I;refine⟨b,rfl,λj J=>?_⟩;obtain rfl:j=0:=by omega
 exact⟨rfl,.v _⟩
theorem bM.string {t:TypeId} (h:P.underlying t=some .string) (F:P.cellsOf t=1):bM P t 1 (λs:{s:ByteArray // s.size<2 ^ 63}=>[.v (.string s.1)]):=by
 refine⟨F,λ_=>rfl,λH enc w O fuel cs x J=>?_⟩;obtain⟨s,rfl,_,I⟩:=DataW.trod_string h J;refine⟨⟨s,by simp only[maxLen] at I;omega⟩,rfl,λj L=>?_⟩;obtain rfl:j=0:=by omega
 exact⟨rfl,.v _⟩
theorem aBJ {α:Type} (p:Nat->α->Prop):∀n,(∀i,i<n->∃a,p i a)->∃l:List α,l.length=n∧∀(i:Nat) (a:α),l[i]? = some a->p i a
 |0,_=>⟨[],rfl,by simp⟩
 | n+1,h=>by
  obtain⟨l,F,h2⟩:=aBJ p n λi hi=>h i (by omega);obtain⟨a,H⟩:=h n (by omega);refine⟨l++[a],by simp[F],λi b I=>?_⟩
  all_goals grind
theorem bM.slice {t u:TypeId}{α:Type}{k:Nat}{e:α->List AV} (h:P.underlying t=some (.slice u)) (hc:P.cellsOf t=1) (hk:0<k) (he:bM P u k e) :
  bM P t 1 (λl:{l:List α // l.length<2 ^ 63}=>[.sl k (l.1.map e)]):=by
 obtain⟨g1,g2,g3⟩:=he;refine⟨hc,λ_=>rfl,λH enc w sp fuel cs x hx=>?_⟩;rcases DataW.trod_slice h hx with⟨rfl,_⟩|⟨A,len,cap,I,hq,n,rfl,rfl,rfl,_,hu,Z,hr,hb,_⟩
 .refine⟨⟨[],by simp⟩,rfl,λj F=>?_⟩;obtain rfl:j=0:=by omega
  exact⟨rfl,.sl k [] none 0 0 0 (λ_=>undef) (by simp) (by simp) (by simp) (by simp) (by simp) ⟨by simp,by decide⟩⟩
 .have hn:∀i,i<len->∃a,∃cs,w.cells? 0 (A.add (i*k)) k=some cs∧∀j,j<k->(cs.getD j undef).oneCell'=true∧RC (λb=>b<w.heap.size) w ((e a).getD j .junk) (cs.getD j undef):=by
   intro i hi;have h1:=hb i hi;rw[g1] at h1;have:i<I.length:=by omega
   rw[List.getElem?_eq_getElem this] at h1;obtain⟨cs,h2,h3⟩:=Option.bind_eq_some_iff.1 h1;obtain⟨a,_,h4⟩:=g3 H enc w sp n cs _ h3;exact⟨a,cs,h2,h4⟩
  obtain⟨l,hl,hp⟩:=aBJ _ len hn;have ho:len<2 ^ 63:=by simp only[maxLen] at Z;omega
  refine⟨⟨l,by omega⟩,rfl,λj F=>?_⟩;obtain rfl:j=0:=by omega
  refine⟨rfl,?_⟩;simp only[List.getD_cons_zero]
  have L:∀i j,i<len->j<k->w.cell? ⟨A.block,A.off+(i*k+j),A.spot⟩=some ((w.cell? ⟨A.block,A.off+(i*k+j),A.spot⟩).getD undef)∧A.spot=none∧
    ((w.cell? ⟨A.block,A.off+(i*k+j),A.spot⟩).getD undef).oneCell'=true∧∃a,l[i]? = some a∧RC (λb=>b<w.heap.size) w ((e a).getD j .junk) ((w.cell? ⟨A.block,A.off+(i*k+j),A.spot⟩).getD undef):=by
   intro i j hi F;obtain⟨a,ha⟩:∃a,l[i]? = some a:=⟨l[i],by simp[show i<l.length by omega]⟩
   have U:A.spot=none:=by
    obtain⟨a0,J⟩:∃a,l[0]? = some a:=⟨l[0],by simp[show 0<l.length by omega]⟩;obtain⟨hg,h0,_⟩:=hp 0 a0 J;obtain⟨_,ht,hh⟩:=World.cells?_some h0;have:=hh 0 hk;simp only[Nat.zero_mul,Addr.add,if_true] at this;rw[List.getElem?_eq_getElem (by omega)] at this;unfold World.cell? at this;split at this
    .split at this
     .cases this
     .rename_i hs;simpa using hs
    .cases this
   obtain⟨cs,h2,h4⟩:=hp i a ha;obtain⟨_,h5,h6⟩:=World.cells?_some h2;have Y:=h6 j F
   have e1:(A.add (i*k)).add j=⟨A.block,A.off+(i*k+j),A.spot⟩:=by
    obtain⟨b,o,s⟩:=A
    all_goals grind [Addr.add]
   rw[e1] at Y;have hm:cs[j]? = some (cs.getD j undef):=by simp[List.getD,show j<cs.length by omega]
   rw[Y,hm];exact⟨rfl,U,(h4 j F).1,a,ha,(h4 j F).2⟩
  have hS:l≠[]->A.block<w.heap.size:=by
   intro O;have:0<len:=by rw[←hl];exact List.length_pos_iff.2 O
   obtain⟨a0,J⟩:∃a,l[0]? = some a:=⟨l[0],by simp[show 0<l.length by omega]⟩;obtain⟨hg,h0,_⟩:=hp 0 a0 J;have:=World.cells?_block h0 hk;simpa[Addr.add] using this
  have hf:RC (λb=>b<w.heap.size) w (.sl k (l.map e)) (.slice (some A) (l.map e).length cap):=by
   refine .sl k _ _ cap A.block A.off (λm=>(w.cell? ⟨A.block,A.off+m,A.spot⟩).getD undef) (λO=>?_) (λi j hi F=>?_) (λi j hi F=>?_) (λi j hi F=>?_) (λi hi=>?_) ⟨by simp;omega,by simp only[maxLen] at Z;omega⟩
   .have hd:l≠[]:=by rintro rfl;exact O rfl
    have:0<len:=by rw[←hl];exact List.length_pos_iff.2 hd
    have hs:=(L 0 0 this hk).2.1;obtain⟨b,o,s⟩:=A
    all_goals grind
   all_goals grind
  have e3:(l.map e).length=len:=by simp[hl]
  rw[e3] at hf;exact hf
theorem aG1 {W F:World} (I:F.os=W.os∧F.output=W.output) (h:∀b,b<W.heap.size->F.heap[b]? = W.heap[b]?) (H:MemPlace->Prop):W.keptBut F H:=by
 refine⟨I.1,I.2,λi hi=>?_⟩
 all_goals grind
theorem aAc {H:Type}{enc:TypeId×Value->H} (O:laidOutB P=true) {W J:World} (h:∀b,b<W.heap.size->J.heap[b]? = W.heap[b]?) :
  ∀ {ts:List TypeId}{vs:List Value}{I:List (DataW H)}{p:List MemPlace},(∀t,t∈ts->P.readableRec t=true∧t<P.types.size)->DataW.TrodAll enc P W 0 (λ_=>true) true ts vs I p->(∀x,x∈p->x.block<W.heap.size)->
   DataW.TrodAll enc P J 0 (λb=>decide (b<W.heap.size)) true ts vs I p
 | [],[],[],p,_,hA,_=>hA
 | t::ts,v::vs,d::I,p,ht,⟨a,b,h1,h2,e⟩,hp=>by
  subst e;refine⟨a,b,WideElems.Trod_stays O (ht t (by simp)).1 (ht t (by simp)).2 h1 (λx F=>?_) (λx F=>?_),aAc O h (λu U=>ht u (by simp[U])) h2 (λx F=>hp x (by simp[F])),rfl⟩
  .have L:=hp x (by simp[F]);cases x with
   |cell b off=>exact cell?_of_block (h b L)
   |map b=>exact h b L
  .simpa using hp x (by simp[F])
 | [],[],_::_,p,_,hA,_=>hA.elim
 | [],_::_,_,p,_,hA,_=>hA.elim
 |_::_,[],_,p,_,hA,_=>hA.elim
 |_::_,_::_,[],p,_,hA,_=>hA.elim
theorem aKr {H:Type}{enc:TypeId×Value->H}{s:ChangeSpec}{fn:Func}{f:FuncId}{W:World}{args:Array Value}{J L:List (DataW H)}{F:List MemPlace}{tb:TypeId}
  (hl:laidOutB P=true) (hm:(fn.params.toList.all λt=>P.readableRec t&&decide (t<P.types.size))=true) (hg:fn.resultTypes=#[tb]) (hk:P.underlying tb=some .bool)
  (hW:DataW.Whole enc P fn.params.toList s.vars false W args.toList J L F) (I:s.vars=[])
  (hs:(s.fn H (J++L)).results=[.lit (.bool true)]∧(s.fn H (J++L)).args=J∧(s.fn H (J++L)).vars=[])
  (O:Env (λb=>b<W.heap.size) W) {xs:List AV} (hd:Fn P f [] xs (.v (.bool true)) []) (hh:args.size=xs.length) (hr:∀j,j<xs.length->RC (λb=>b<W.heap.size) W (xs.getD j .junk) (args.getD j undef)) :
  Calls P f args W λe Z=>∃v,e=.returned v∧s.post enc P fn false true false false W args v Z:=by
 have hn:∀t,t∈fn.params.toList->P.readableRec t=true∧t<P.types.size:=by
  grind
 have hc:=hd.2 (λb=>b<W.heap.size) W (λ_=>none) (λ_=>0) args ⟨λn b hb=>by cases n<;>simp[Hn] at hb,λn m x h1=>by cases n<;>simp[Hn] at h1,λ_ h=>h,O⟩ (by simp) hh (λj hj=>.clo (hr j hj));refine hc.mono ?_;rintro e Z ⟨v,S',ρ',κ',rfl,hpost,hv⟩;refine⟨v,rfl,?_⟩;obtain rfl:v=.bool true:=bL hv;have U:∀b,b<W.heap.size->Z.heap[b]? = W.heap[b]?:=λb hb=>hpost.old b hb (by rintro⟨j,hj,_⟩;simp at hj);obtain⟨p,q,hA,hV,Y,he,hf⟩:=hW;have ha:L=[]∧q=[]:=by rw[I] at hV;exact trodVars_none hV
 obtain⟨rfl,rfl⟩:=ha;simp only[List.append_nil] at Y;subst Y;refine⟨J,[],F,[],F,[],⟨F,[],hA,hV,by simp,he,hf⟩,?_,?_,?_,aG1 hpost.out U _,λh=>by cases h⟩
 .rw[hg,hs.1];exact trodAll_mk1 (shut_bool hk _)
 .grind [aAc,DataW.TrodAll.lt]
 .rw[I,hs.2.2];rfl
theorem aEZ {t:TypeId}{α:Type}{e:α->List AV} (F:bM P t 1 e) {H:Type}{enc:TypeId×Value->H}{W:World}{v:Value}{d:DataW H}{p:List MemPlace} (I:v.cells=#[v])
  (h:DataW.Trod enc P W 0 (λ_=>true) true t v d p):∃a,RC (λb=>b<W.heap.size) W ((e a).getD 0 .junk) v:=by
 grind [bM,DataW.Trod]
theorem aMu {t:TypeId}{α:Type}{k:Nat}{e:α->List AV} (I:bM P t k e) {H:Type}{enc:TypeId×Value->H}{W:World}{cs:Array Value}{d:DataW H}{p:List MemPlace}
  (h:DataW.Trod enc P W 0 (λ_=>true) true t (.agg cs) d p):∃a,RC (λb=>b<W.heap.size) W (.agg (e a)) (.agg cs):=by
 obtain⟨n,J⟩:=h;obtain⟨a,F,h2⟩:=I.2.2 H enc W _ n _ _ J;simp only[Value.cells,Array.length_toList] at F;refine⟨a,.agg _ _ (by rw[I.2.1,F]) λj L=>?_⟩
 all_goals grind [Value.cells,Array.getD_eq_getD_getElem?,bM]
end Go.Vs
