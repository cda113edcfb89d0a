/- From the statement's arguments to closed values, and from a contract to the statement's answer. -/
import Derived.Test.YthbnjmgjhonfbaaGreatVsS
import GoSem.ClaimJoined
import Derived.ProofKit
import Derived.JoinedOf
set_option linter.all false
set_option maxHeartbeats 8000000
namespace Go.Vs
variable [Envs]
open Go.ChangeShapes Go.RowKit
variable {P:Program}
def Opens (P:Program) (t:TypeId) {α:Type} (k:Nat) (e:α→List AV):Prop:=
 P.cellsOf t=k∧(∀a,(e a).length=k)∧∀(H:Type) (enc:TypeId×Value→H) (w:World) (sp:Nat→Bool) (fuel:Nat) (cs:List Value) (x:DataW H×List MemPlace),
  DataW.trod enc P w 0 sp true fuel t cs=some x→∃a,cs.length=k∧∀j,j<k→(cs.getD j undef).oneCell'=true∧RC (fun b=>b<w.heap.size) w ((e a).getD j .junk) (cs.getD j undef)
theorem Opens.int {t:TypeId}{kd:IntKind} (h:P.underlying t=some (.int kd)) (hc:P.cellsOf t=1) :
  Opens P t 1 (fun n:{n:Int // (Lit.int kd n).wf=true}=>[.v (.int kd n.1)]):=by
 refine⟨hc,fun _=>rfl,fun H enc w sp fuel cs x hx=>?_⟩;obtain⟨n,rfl,_,hw⟩:=DataW.trod_int h hx;refine⟨⟨n,hw⟩,rfl,fun j hj=>?_⟩;obtain rfl:j=0:=by omega
 exact⟨rfl,.v _⟩
theorem Opens.bool {t:TypeId} (h:P.underlying t=some .bool) (hc:P.cellsOf t=1):Opens P t 1 (fun b:Bool=>[.v (.bool b)]):=by
 refine⟨hc,fun _=>rfl,fun H enc w sp fuel cs x hx=>?_⟩;obtain⟨b,rfl,_⟩:=DataW.trod_bool h hx;refine⟨b,rfl,fun j hj=>?_⟩;obtain rfl:j=0:=by omega
 exact⟨rfl,.v _⟩
theorem Opens.string {t:TypeId} (h:P.underlying t=some .string) (hc:P.cellsOf t=1):Opens P t 1 (fun s:{s:ByteArray // s.size<2 ^ 63}=>[.v (.string s.1)]):=by
 refine⟨hc,fun _=>rfl,fun H enc w sp fuel cs x hx=>?_⟩;obtain⟨s,rfl,_,hs⟩:=DataW.trod_string h hx;refine⟨⟨s,by simp only[maxLen] at hs;omega⟩,rfl,fun j hj=>?_⟩;obtain rfl:j=0:=by omega
 exact⟨rfl,.v _⟩
theorem aBl {α:Type} (p:Nat→α→Prop):∀n,(∀i,i<n→∃a,p i a)→∃l:List α,l.length=n∧∀(i:Nat) (a:α),l[i]? = some a→p i a
 |0,_=>⟨[],rfl,by simp⟩
 | n+1,h=>by
  obtain⟨l,h1,h2⟩:=aBl p n fun i hi=>h i (by omega);obtain⟨a,ha⟩:=h n (by omega);refine⟨l++[a],by simp[h1],fun i b hb=>?_⟩;rcases Nat.lt_or_ge i n with hi|hi
  ·rw[List.getElem?_append_left (by omega)] at hb;exact h2 i b hb
  ·have:i=n:=by
    have:=(List.getElem?_eq_some_iff.1 hb).1;simp at this;omega
   subst this;rw[List.getElem?_append_right (by omega)] at hb;simp[h1] at hb;subst hb;exact ha
theorem Opens.slice {t u:TypeId}{α:Type}{k:Nat}{e:α→List AV} (h:P.underlying t=some (.slice u)) (hc:P.cellsOf t=1) (hk:0<k) (he:Opens P u k e) :
  Opens P t 1 (fun l:{l:List α // l.length<2 ^ 63}=>[.sl k (l.1.map e)]):=by
 obtain⟨g1,g2,g3⟩:=he;refine⟨hc,fun _=>rfl,fun H enc w sp fuel cs x hx=>?_⟩;rcases DataW.trod_slice h hx with⟨rfl,_⟩|⟨A,len,cap,elems,rest,n,rfl,rfl,rfl,_,hlc,hcm,hel,hget,_⟩
 ·refine⟨⟨[],by simp⟩,rfl,fun j hj=>?_⟩;obtain rfl:j=0:=by omega
  exact⟨rfl,.sl k [] none 0 0 0 (fun _=>undef) (by simp) (by simp) (by simp) (by simp) (by simp) ⟨by simp,by decide⟩⟩
 ·have hex:∀i,i<len→∃a,∃cs,w.cells? 0 (A.add (i*k)) k=some cs∧∀j,j<k→(cs.getD j undef).oneCell'=true∧RC (fun b=>b<w.heap.size) w ((e a).getD j .junk) (cs.getD j undef):=by
   intro i hi;have h1:=hget i hi;rw[g1] at h1;have:i<elems.length:=by omega
   rw[List.getElem?_eq_getElem this] at h1;obtain⟨cs,h2,h3⟩:=Option.bind_eq_some_iff.1 h1;obtain⟨a,_,h4⟩:=g3 H enc w sp n cs _ h3;exact⟨a,cs,h2,h4⟩
  obtain⟨l,hl,hp⟩:=aBl _ len hex;have hlen:len<2 ^ 63:=by simp only[maxLen] at hcm;omega
  refine⟨⟨l,by omega⟩,rfl,fun j hj=>?_⟩;obtain rfl:j=0:=by omega
  refine⟨rfl,?_⟩;simp only[List.getD_cons_zero]
  have hcell:∀i j,i<len→j<k→w.cell? ⟨A.block,A.off+(i*k+j),A.spot⟩=some ((w.cell? ⟨A.block,A.off+(i*k+j),A.spot⟩).getD undef)∧A.spot=none∧
    ((w.cell? ⟨A.block,A.off+(i*k+j),A.spot⟩).getD undef).oneCell'=true∧∃a,l[i]? = some a∧RC (fun b=>b<w.heap.size) w ((e a).getD j .junk) ((w.cell? ⟨A.block,A.off+(i*k+j),A.spot⟩).getD undef):=by
   intro i j hi hj;obtain⟨a,ha⟩:∃a,l[i]? = some a:=⟨l[i],by simp[show i<l.length by omega]⟩
   have hspot:A.spot=none:=by
    obtain⟨a0,ha0⟩:∃a,l[0]? = some a:=⟨l[0],by simp[show 0<l.length by omega]⟩;obtain⟨cs0,h0,_⟩:=hp 0 a0 ha0;obtain⟨_,hl0,hc0⟩:=World.cells?_some h0;have:=hc0 0 hk;simp only[Nat.zero_mul,Addr.add,if_true] at this;rw[List.getElem?_eq_getElem (by omega)] at this;unfold World.cell? at this;split at this
    ·split at this
     ·cases this
     ·rename_i hs;simpa using hs
    ·cases this
   obtain⟨cs,h2,h4⟩:=hp i a ha;obtain⟨_,h5,h6⟩:=World.cells?_some h2;have hcj:=h6 j hj
   have e1:(A.add (i*k)).add j=⟨A.block,A.off+(i*k+j),A.spot⟩:=by
    obtain⟨b,o,s⟩:=A;simp only at hspot;subst hspot;simp only[Addr.add];split<;>split<;>simp_all [Nat.add_assoc]
   rw[e1] at hcj;have hcs:cs[j]? = some (cs.getD j undef):=by simp[List.getD,show j<cs.length by omega]
   rw[hcj,hcs];exact⟨rfl,hspot,(h4 j hj).1,a,ha,(h4 j hj).2⟩
  have hS:l≠[]→A.block<w.heap.size:=by
   intro hne;have:0<len:=by rw[←hl];exact List.length_pos_iff.2 hne
   obtain⟨a0,ha0⟩:∃a,l[0]? = some a:=⟨l[0],by simp[show 0<l.length by omega]⟩;obtain⟨cs0,h0,_⟩:=hp 0 a0 ha0;have:=World.cells?_block h0 hk;simpa[Addr.add] using this
  have key:RC (fun b=>b<w.heap.size) w (.sl k (l.map e)) (.slice (some A) (l.map e).length cap):=by
   refine .sl k _ _ cap A.block A.off (fun m=>(w.cell? ⟨A.block,A.off+m,A.spot⟩).getD undef) (fun hne=>?_) (fun i j hi hj=>?_) (fun i j hi hj=>?_) (fun i j hi hj=>?_) (fun i hi=>?_) ⟨by simp;omega,by simp only[maxLen] at hcm;omega⟩
   ·have hne':l≠[]:=by rintro rfl;exact hne rfl
    have:0<len:=by rw[←hl];exact List.length_pos_iff.2 hne'
    have hs:=(hcell 0 0 this hk).2.1;obtain⟨b,o,s⟩:=A;simp only at hs;subst hs;exact⟨rfl,hS hne'⟩
   ·simp only[List.length_map] at hi;have:=hcell i j (by omega) hj;rw[←this.1,this.2.1]
   ·simp only[List.length_map] at hi;exact(hcell i j (by omega) hj).2.2.1
   ·simp only[List.length_map] at hi;obtain⟨_,_,_,a,ha,hr⟩:=hcell i j (by omega) hj;have e2:(l.map e).getD i []=e a:=by simp[List.getD,ha]
    rw[e2];exact hr
   ·simp only[List.length_map] at hi;have:(l.map e).getD i []=e l[i]:=by simp[List.getD,hi]
    rw[this];exact g2 _
  have e3:(l.map e).length=len:=by simp[hl]
  rw[e3] at key;exact key
theorem aFU {W W':World} (ho:W'.os=W.os∧W'.output=W.output) (h:∀b,b<W.heap.size→W'.heap[b]? = W.heap[b]?) (may:MemPlace→Prop):W.keptBut W' may:=by
 refine⟨ho.1,ho.2,fun i hi=>?_⟩;rw[h i hi];cases W.heap[i]? with
 |none=>rfl
 |some o=>cases o<;>first|exact⟨rfl,rfl,rfl,fun _ _=>rfl⟩|exact .inr ⟨rfl,rfl⟩|rfl
theorem zO {H:Type}{enc:TypeId×Value→H} (hl:laidOutB P=true) {W W':World} (h:∀b,b<W.heap.size→W'.heap[b]? = W.heap[b]?) :
  ∀ {ts:List TypeId}{vs:List Value}{ds:List (DataW H)}{p:List MemPlace},(∀t,t∈ts→P.readableRec t=true∧t<P.types.size)→DataW.TrodAll enc P W 0 (fun _=>true) true ts vs ds p→(∀x,x∈p→x.block<W.heap.size)→
   DataW.TrodAll enc P W' 0 (fun b=>decide (b<W.heap.size)) true ts vs ds p
 | [],[],[],p,_,hA,_=>hA
 | t::ts,v::vs,d::ds,p,ht,⟨a,b,h1,h2,e⟩,hp=>by
  subst e;refine⟨a,b,WideElems.Trod_stays hl (ht t (by simp)).1 (ht t (by simp)).2 h1 (fun x hx=>?_) (fun x hx=>?_),zO hl h (fun u hu=>ht u (by simp[hu])) h2 (fun x hx=>hp x (by simp[hx])),rfl⟩
  ·have hb:=hp x (by simp[hx]);cases x with
   |cell b off=>exact cell?_of_block (h b hb)
   |map b=>exact h b hb
  ·simpa using hp x (by simp[hx])
 | [],[],_::_,p,_,hA,_=>hA.elim
 | [],_::_,_,p,_,hA,_=>hA.elim
 |_::_,[],_,p,_,hA,_=>hA.elim
 |_::_,_::_,[],p,_,hA,_=>hA.elim
theorem aIY {H:Type}{enc:TypeId×Value→H}{s:ChangeSpec}{fn:Func}{f:FuncId}{W:World}{args:Array Value}{ds gs:List (DataW H)}{before:List MemPlace}{tb:TypeId}
  (hl:laidOutB P=true) (htB:(fn.params.toList.all fun t=>P.readableRec t&&decide (t<P.types.size))=true) (hrt:fn.resultTypes=#[tb]) (htb:P.underlying tb=some .bool)
  (hW:DataW.Whole enc P fn.params.toList s.vars false W args.toList ds gs before) (hvars:s.vars=[])
  (hs:(s.fn H (ds++gs)).results=[.lit (.bool true)]∧(s.fn H (ds++gs)).args=ds∧(s.fn H (ds++gs)).vars=[])
  (henv:Env (fun b=>b<W.heap.size) W) {xs:List AV} (hfn:Fn P f [] xs (.v (.bool true)) []) (hsz:args.size=xs.length) (hr:∀j,j<xs.length→RC (fun b=>b<W.heap.size) W (xs.getD j .junk) (args.getD j undef)) :
  Calls P f args W fun e W'=>∃v,e=.returned v∧s.post enc P fn false true false false W args v W':=by
 have hts:∀t,t∈fn.params.toList→P.readableRec t=true∧t<P.types.size:=by
  intro t ht;have:=List.all_eq_true.1 htB t ht;simpa using this
 have hc:=hfn.2 (fun b=>b<W.heap.size) W (fun _=>none) (fun _=>0) args ⟨fun n b hb=>by cases n<;>simp[Hn] at hb,fun n m x h1=>by cases n<;>simp[Hn] at h1,fun _ h=>h,henv⟩ (by simp) hsz (fun j hj=>.clo (hr j hj));refine hc.mono ?_;rintro e W' ⟨v,S',ρ',κ',rfl,hpost,hv⟩;refine⟨v,rfl,?_⟩;obtain rfl:v=.bool true:=dY hv;have hold:∀b,b<W.heap.size→W'.heap[b]? = W.heap[b]?:=fun b hb=>hpost.old b hb (by rintro⟨j,hj,_⟩;simp at hj);obtain⟨p,q,hA,hV,hpq,hfz,hnd⟩:=hW;have hVq:gs=[]∧q=[]:=by rw[hvars] at hV;exact trodVars_none hV
 obtain⟨rfl,rfl⟩:=hVq;simp only[List.append_nil] at hpq;subst hpq;refine⟨ds,[],before,[],before,[],⟨before,[],hA,hV,by simp,hfz,hnd⟩,?_,?_,?_,aFU hpost.out hold _,fun h=>by cases h⟩
 ·rw[hrt,hs.1];exact trodAll_mk1 (shut_bool htb _)
 ·rw[hs.2.1];exact zO hl hold hts hA (fun x hx=>DataW.TrodAll.lt hA x hx)
 ·rw[hvars,hs.2.2];rfl
theorem aEh {t:TypeId}{α:Type}{e:α→List AV} (ho:Opens P t 1 e) {H:Type}{enc:TypeId×Value→H}{W:World}{v:Value}{d:DataW H}{p:List MemPlace} (hv:v.cells=#[v])
  (h:DataW.Trod enc P W 0 (fun _=>true) true t v d p):∃a,RC (fun b=>b<W.heap.size) W ((e a).getD 0 .junk) v:=by
 obtain⟨n,hn⟩:=h;rw[hv] at hn;obtain⟨a,_,h2⟩:=ho.2.2 H enc W _ n _ _ hn;exact⟨a,by simpa using(h2 0 (by omega)).2⟩
theorem aLd {t:TypeId}{α:Type}{k:Nat}{e:α→List AV} (ho:Opens P t k e) {H:Type}{enc:TypeId×Value→H}{W:World}{cs:Array Value}{d:DataW H}{p:List MemPlace}
  (h:DataW.Trod enc P W 0 (fun _=>true) true t (.agg cs) d p):∃a,RC (fun b=>b<W.heap.size) W (.agg (e a)) (.agg cs):=by
 obtain⟨n,hn⟩:=h;obtain⟨a,h1,h2⟩:=ho.2.2 H enc W _ n _ _ hn;simp only[Value.cells,Array.length_toList] at h1;refine⟨a,.agg _ _ (by rw[ho.2.1,h1]) fun j hj=>?_⟩;rw[ho.2.1] at hj;have:=(h2 j hj).2;simpa[Value.cells,List.getD,Array.getD_eq_getD_getElem?] using this
end Go.Vs
