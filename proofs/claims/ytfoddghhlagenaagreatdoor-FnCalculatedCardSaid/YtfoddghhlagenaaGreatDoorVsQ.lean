/- From the statement's arguments to closed values, and from a contract to the statement's answer. -/
import Derived.Test.YtfoddghhlagenaaGreatDoorVsS
import GoSem.ClaimJoined
import Derived.ProofKit
import Derived.JoinedOf
set_option linter.all false
set_option maxHeartbeats 8000000
namespace Go.Vs
variable [Envs]
open Go.ChangeShapes Go.RowKit
variable {P:Program}
def Opens (P:Program) (t:TypeId) {α:Type} (k:Nat) (e:α->List AV):Prop:=
 P.cellsOf t=k∧(∀a,(e a).length=k)∧∀(H:Type) (enc:TypeId×Value->H) (w:World) (sp:Nat->Bool) (fuel:Nat) (cs:List Value) (x:DataW H×List MemPlace),
  DataW.trod enc P w 0 sp true fuel t cs=some x->∃a,cs.length=k∧∀j,j<k->(cs.getD j undef).oneCell'=true∧RC (λb=>b<w.heap.size) w ((e a).getD j .junk) (cs.getD j undef)
theorem Opens.int {t:TypeId}{kd:IntKind} (h:P.underlying t=some (.int kd)) (hc:P.cellsOf t=1) :
  Opens P t 1 (λn:{n:Int // (Lit.int kd n).wf=true}=>[.v (.int kd n.1)]):=by
 refine⟨hc,λ_=>rfl,λH enc w sp fuel cs x hx=>?_⟩
 obtain⟨n,rfl,_,hw⟩:=DataW.trod_int h hx
 refine⟨⟨n,hw⟩,rfl,λj hj=>?_⟩
 obtain rfl:j=0:=by omega
 exact⟨rfl,.v _⟩
theorem Opens.bool {t:TypeId} (h:P.underlying t=some .bool) (hc:P.cellsOf t=1):Opens P t 1 (λb:Bool=>[.v (.bool b)]):=by
 refine⟨hc,λ_=>rfl,λH enc w sp fuel cs x hx=>?_⟩
 obtain⟨b,rfl,_⟩:=DataW.trod_bool h hx
 refine⟨b,rfl,λj hj=>?_⟩
 obtain rfl:j=0:=by omega
 exact⟨rfl,.v _⟩
theorem Opens.string {t:TypeId} (h:P.underlying t=some .string) (hc:P.cellsOf t=1):Opens P t 1 (λs:{s:ByteArray // s.size<2 ^ 63}=>[.v (.string s.1)]):=by
 refine⟨hc,λ_=>rfl,λH enc w sp fuel cs x hx=>?_⟩
 obtain⟨s,rfl,_,hs⟩:=DataW.trod_string h hx
 refine⟨⟨s,by simp only[maxLen] at hs;omega⟩,rfl,λj hj=>?_⟩
 obtain rfl:j=0:=by omega
 exact⟨rfl,.v _⟩
theorem vW {α:Type} (p:Nat->α->Prop):∀n,(∀i,i<n->∃a,p i a)->∃l:List α,l.length=n∧∀(i:Nat) (a:α),l[i]? = some a->p i a
 |0,_=>⟨[],rfl,by simp⟩
 | n+1,h=>by
  obtain⟨l,h1,h2⟩:=vW p n λi hi=>h i (by omega)
  obtain⟨a,ha⟩:=h n (by omega)
  refine⟨l++[a],by simp[h1],λi b hb=>?_⟩
  all_goals grind
theorem Opens.slice {t u:TypeId}{α:Type}{k:Nat}{e:α->List AV} (h:P.underlying t=some (.slice u)) (hc:P.cellsOf t=1) (hk:0<k) (he:Opens P u k e) :
  Opens P t 1 (λl:{l:List α // l.length<2 ^ 63}=>[.sl k (l.1.map e)]):=by
 obtain⟨g1,g2,g3⟩:=he
 refine⟨hc,λ_=>rfl,λH enc w sp fuel cs x hx=>?_⟩
 rcases DataW.trod_slice h hx with⟨rfl,_⟩|⟨A,len,cap,elems,rest,n,rfl,rfl,rfl,_,hlc,hcm,hel,hget,_⟩
 .refine⟨⟨[],by simp⟩,rfl,λj hj=>?_⟩
  obtain rfl:j=0:=by omega
  exact⟨rfl,.sl k [] none 0 0 0 (λ_=>undef) (by simp) (by simp) (by simp) (by simp) (by simp) ⟨by simp,by decide⟩⟩
 .have hex:∀i,i<len->∃a,∃cs,w.cells? 0 (A.add (i*k)) k=some cs∧∀j,j<k->(cs.getD j undef).oneCell'=true∧RC (λb=>b<w.heap.size) w ((e a).getD j .junk) (cs.getD j undef):=by
   intro i hi
   have h1:=hget i hi
   rw[g1] at h1
   have:i<elems.length:=by omega
   rw[List.getElem?_eq_getElem this] at h1
   obtain⟨cs,h2,h3⟩:=Option.bind_eq_some_iff.1 h1
   obtain⟨a,_,h4⟩:=g3 H enc w sp n cs _ h3
   exact⟨a,cs,h2,h4⟩
  obtain⟨l,hl,hp⟩:=vW _ len hex
  have hlen:len<2 ^ 63:=by simp only[maxLen] at hcm;omega
  refine⟨⟨l,by omega⟩,rfl,λj hj=>?_⟩
  obtain rfl:j=0:=by omega
  refine⟨rfl,?_⟩
  simp only[List.getD_cons_zero]
  have hcell:∀i j,i<len->j<k->w.cell? ⟨A.block,A.off+(i*k+j),A.spot⟩=some ((w.cell? ⟨A.block,A.off+(i*k+j),A.spot⟩).getD undef)∧A.spot=none∧
    ((w.cell? ⟨A.block,A.off+(i*k+j),A.spot⟩).getD undef).oneCell'=true∧∃a,l[i]? = some a∧RC (λb=>b<w.heap.size) w ((e a).getD j .junk) ((w.cell? ⟨A.block,A.off+(i*k+j),A.spot⟩).getD undef):=by
   intro i j hi hj
   obtain⟨a,ha⟩:∃a,l[i]? = some a:=⟨l[i],by simp[show i<l.length by omega]⟩
   have hspot:A.spot=none:=by
    obtain⟨a0,ha0⟩:∃a,l[0]? = some a:=⟨l[0],by simp[show 0<l.length by omega]⟩
    obtain⟨cs0,h0,_⟩:=hp 0 a0 ha0
    obtain⟨_,hl0,hc0⟩:=World.cells?_some h0
    have:=hc0 0 hk
    simp only[Nat.zero_mul,Addr.add,if_true] at this
    rw[List.getElem?_eq_getElem (by omega)] at this
    unfold World.cell? at this
    split at this
    .split at this
     .cases this
     .rename_i hs;simpa using hs
    .cases this
   obtain⟨cs,h2,h4⟩:=hp i a ha
   obtain⟨_,h5,h6⟩:=World.cells?_some h2
   have hcj:=h6 j hj
   have e1:(A.add (i*k)).add j=⟨A.block,A.off+(i*k+j),A.spot⟩:=by
    obtain⟨b,o,s⟩:=A
    all_goals grind [Addr.add]
   rw[e1] at hcj
   have hcs:cs[j]? = some (cs.getD j undef):=by simp[List.getD,show j<cs.length by omega]
   rw[hcj,hcs]
   exact⟨rfl,hspot,(h4 j hj).1,a,ha,(h4 j hj).2⟩
  have hS:l≠[]->A.block<w.heap.size:=by
   intro hne
   have:0<len:=by rw[←hl];exact List.length_pos_iff.2 hne
   obtain⟨a0,ha0⟩:∃a,l[0]? = some a:=⟨l[0],by simp[show 0<l.length by omega]⟩
   obtain⟨cs0,h0,_⟩:=hp 0 a0 ha0
   have:=World.cells?_block h0 hk
   simpa[Addr.add] using this
  have key:RC (λb=>b<w.heap.size) w (.sl k (l.map e)) (.slice (some A) (l.map e).length cap):=by
   refine .sl k _ _ cap A.block A.off (λm=>(w.cell? ⟨A.block,A.off+m,A.spot⟩).getD undef) (λhne=>?_) (λi j hi hj=>?_) (λi j hi hj=>?_) (λi j hi hj=>?_) (λi hi=>?_) ⟨by simp;omega,by simp only[maxLen] at hcm;omega⟩
   .have hne':l≠[]:=by rintro rfl;exact hne rfl
    have:0<len:=by rw[←hl];exact List.length_pos_iff.2 hne'
    have hs:=(hcell 0 0 this hk).2.1
    obtain⟨b,o,s⟩:=A
    all_goals grind
   all_goals grind
  have e3:(l.map e).length=len:=by simp[hl]
  rw[e3] at key
  exact key
theorem aBr {W W':World} (ho:W'.os=W.os∧W'.output=W.output) (h:∀b,b<W.heap.size->W'.heap[b]? = W.heap[b]?) (may:MemPlace->Prop):W.keptBut W' may:=by
 refine⟨ho.1,ho.2,λi hi=>?_⟩
 all_goals grind
theorem sK {H:Type}{enc:TypeId×Value->H} (hl:laidOutB P=true) {W W':World} (h:∀b,b<W.heap.size->W'.heap[b]? = W.heap[b]?) :
  ∀ {ts:List TypeId}{vs:List Value}{ds:List (DataW H)}{p:List MemPlace},(∀t,t∈ts->P.readableRec t=true∧t<P.types.size)->DataW.TrodAll enc P W 0 (λ_=>true) true ts vs ds p->(∀x,x∈p->x.block<W.heap.size)->
   DataW.TrodAll enc P W' 0 (λb=>decide (b<W.heap.size)) true ts vs ds p
 | [],[],[],p,_,hA,_=>hA
 | t::ts,v::vs,d::ds,p,ht,⟨a,b,h1,h2,e⟩,hp=>by
  subst e
  refine⟨a,b,WideElems.Trod_stays hl (ht t (by simp)).1 (ht t (by simp)).2 h1 (λx hx=>?_) (λx hx=>?_),sK hl h (λu hu=>ht u (by simp[hu])) h2 (λx hx=>hp x (by simp[hx])),rfl⟩
  .have hb:=hp x (by simp[hx])
   cases x with
   |cell b off=>exact cell?_of_block (h b hb)
   |map b=>exact h b hb
  .simpa using hp x (by simp[hx])
 | [],[],_::_,p,_,hA,_=>hA.elim
 | [],_::_,_,p,_,hA,_=>hA.elim
 |_::_,[],_,p,_,hA,_=>hA.elim
 |_::_,_::_,[],p,_,hA,_=>hA.elim
theorem aDW {H:Type}{enc:TypeId×Value->H}{s:ChangeSpec}{fn:Func}{f:FuncId}{W:World}{args:Array Value}{ds gs:List (DataW H)}{before:List MemPlace}{tb:TypeId}
  (hl:laidOutB P=true) (htB:(fn.params.toList.all λt=>P.readableRec t&&decide (t<P.types.size))=true) (hrt:fn.resultTypes=#[tb]) (htb:P.underlying tb=some .bool)
  (hW:DataW.Whole enc P fn.params.toList s.vars false W args.toList ds gs before) (hvars:s.vars=[])
  (hs:(s.fn H (ds++gs)).results=[.lit (.bool true)]∧(s.fn H (ds++gs)).args=ds∧(s.fn H (ds++gs)).vars=[])
  (henv:Env (λb=>b<W.heap.size) W) {xs:List AV} (hfn:Fn P f [] xs (.v (.bool true)) []) (hsz:args.size=xs.length) (hr:∀j,j<xs.length->RC (λb=>b<W.heap.size) W (xs.getD j .junk) (args.getD j undef)) :
  Calls P f args W λe W'=>∃v,e=.returned v∧s.post enc P fn false true false false W args v W':=by
 have hts:∀t,t∈fn.params.toList->P.readableRec t=true∧t<P.types.size:=by
  grind
 have hc:=hfn.2 (λb=>b<W.heap.size) W (λ_=>none) (λ_=>0) args ⟨λn b hb=>by cases n<;>simp[Hn] at hb,λn m x h1=>by cases n<;>simp[Hn] at h1,λ_ h=>h,henv⟩ (by simp) hsz (λj hj=>.clo (hr j hj))
 refine hc.mono ?_
 rintro e W' ⟨v,S',ρ',κ',rfl,hpost,hv⟩
 refine⟨v,rfl,?_⟩
 obtain rfl:v=.bool true:=aZ hv
 have hold:∀b,b<W.heap.size->W'.heap[b]? = W.heap[b]?:=λb hb=>hpost.old b hb (by rintro⟨j,hj,_⟩;simp at hj)
 obtain⟨p,q,hA,hV,hpq,hfz,hnd⟩:=hW
 have hVq:gs=[]∧q=[]:=by rw[hvars] at hV;exact trodVars_none hV
 obtain⟨rfl,rfl⟩:=hVq
 simp only[List.append_nil] at hpq
 subst hpq
 refine⟨ds,[],before,[],before,[],⟨before,[],hA,hV,by simp,hfz,hnd⟩,?_,?_,?_,aBr hpost.out hold _,λh=>by cases h⟩
 .rw[hrt,hs.1]
  exact trodAll_mk1 (shut_bool htb _)
 .grind [sK,DataW.TrodAll.lt]
 .rw[hvars,hs.2.2];rfl
theorem aAq {t:TypeId}{α:Type}{e:α->List AV} (ho:Opens P t 1 e) {H:Type}{enc:TypeId×Value->H}{W:World}{v:Value}{d:DataW H}{p:List MemPlace} (hv:v.cells=#[v])
  (h:DataW.Trod enc P W 0 (λ_=>true) true t v d p):∃a,RC (λb=>b<W.heap.size) W ((e a).getD 0 .junk) v:=by
 grind [Opens,DataW.Trod]
theorem aFt {t:TypeId}{α:Type}{k:Nat}{e:α->List AV} (ho:Opens P t k e) {H:Type}{enc:TypeId×Value->H}{W:World}{cs:Array Value}{d:DataW H}{p:List MemPlace}
  (h:DataW.Trod enc P W 0 (λ_=>true) true t (.agg cs) d p):∃a,RC (λb=>b<W.heap.size) W (.agg (e a)) (.agg cs):=by
 obtain⟨n,hn⟩:=h
 obtain⟨a,h1,h2⟩:=ho.2.2 H enc W _ n _ _ hn
 simp only[Value.cells,Array.length_toList] at h1
 refine⟨a,.agg _ _ (by rw[ho.2.1,h1]) λj hj=>?_⟩
 all_goals grind [Value.cells,Array.getD_eq_getD_getElem?,Opens]
end Go.Vs
