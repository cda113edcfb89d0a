/- Regions of open order whose orders are gone through, also where a call writes what was lent; operations that only read slots are taken first. -/
import Derived.Test.YtmiiohemehacjaaGreatDoorVuW
set_option linter.all false
set_option maxHeartbeats 8000000
namespace Go.Vs
section
section
variable [Envs]
variable {P:Program}{nt:Nat}{Q:Exit->Act->World->Prop}
end
section
variable [I:Envs]
variable {P:Program}{nt:Nat}{Q:Exit->Act->World->Prop}{a:Act}{w:World}
end
end
section
def tT (E:List (List Nat)) (T:List Nat) (i:Nat):Bool:=(E.getD i []).all λk=>!T.contains k
def OrK (E:List (List Nat)) (T R:List Nat) (f:Nat->Prop) (_:Tag f):Prop:=∀i,i∈R->tT E T i=true->f i
theorem OrK.nil {E:List (List Nat)}{T:List Nat}{f:Nat->Prop}{t:Tag f}:OrK E T [] f t:=λi hi=>by cases hi
theorem OrK.yes {E:List (List Nat)}{T r:List Nat}{f:Nat->Prop}{t:Tag f}{x:Nat} (_:tT E T x=true) (u:f x) (h2:OrK E T r f t):OrK E T (x::r) f t:=λi hi F=>by
 rcases Ay.1 hi with rfl|hi
 .exact u
 .exact h2 i hi F
theorem OrK.no {E:List (List Nat)}{T r:List Nat}{f:Nat->Prop}{t:Tag f}{x:Nat} (h:tT E T x=false) (h2:OrK E T r f t):OrK E T (x::r) f t:=λi hi u=>by
 rcases Ay.1 hi with rfl|hi
 .rw[h] at u;cases u
 .exact h2 i hi u
def okL (E:List (List Nat)):List Nat->List Nat->Prop
 |T,[]=>T=[]
 |T,i::L=>i∈T∧tT E T i=true∧okL E (T.erase i) L
theorem aFq {E u:List (List Nat)} (h:∀i k,k∈u.getD i []->k∈E.getD i []):∀{L T:List Nat},okL E T L->okL u T L
 | [],_,hl=>hl
 | i :: L,T,⟨h1,h2,h3⟩=>⟨h1,by
     unfold tT at h2⊢;exact Aw.2 λk F=>Aw.1 h2 k (h i k F),aFq h h3⟩
theorem aC0 {E:List (List Nat)} (p:Nat->Bool):∀{L T:List Nat},T.Nodup->okL E T L->okL E (T.filter p) (L.filter p)
 | [],T,_,h=>by
  obtain rfl:T=[]:=h;rfl
 | i::L,T,hn,⟨h1,h2,h3⟩=>by
  have u:=aC0 p (hn.erase i) h3;by_cases F:p i=true
  .rw[List.filter_cons_of_pos F];refine⟨BN.2 ⟨h1,F⟩,?_,?_⟩
   .unfold tT at h2⊢;refine Aw.2 λk H=>?_;have:=Aw.1 h2 k H;simp only[Bz,CV,BH] at this⊢;exact λh=>this (BN.1 h).1
   .rw[hn.erase_eq_filter,List.filter_filter] at u;rw[List.Nodup.erase_eq_filter (hn.filter p),List.filter_filter];have e:(List.filter (λa=>p a&&(a != i)) T)=(List.filter (λa=>(a != i)&&p a) T):=List.filter_congr λx _=>by cases p x<;>cases(x != i)<;>rfl
    first|exact u|(rw[e] at u;exact u)|(rw[←e] at u;exact u)
  .rw[List.filter_cons_of_neg F];rw[hn.erase_eq_filter,List.filter_filter] at u
   have e:List.filter (λa=>p a&&(a != i)) T=List.filter p T:=List.filter_congr λx _=>by
    by_cases G:x=i
    .subst G;simp at F;simp[F]
    .simp[G]
   rw[e] at u;exact u
theorem aBq {E:List (List Nat)}:∀{L T:List Nat},T.Nodup->okL E T L->L.Nodup∧∀j,j∈L↔j∈T
 | [],T,_,h=>by
  obtain rfl:T=[]:=h;simp
 | i::L,T,hn,⟨h1,_,h3⟩=>by
  obtain⟨F,u⟩:=aBq (hn.erase i) h3;refine⟨DI.2 ⟨λhi=>?_,F⟩,λj=>?_⟩
  .have:=(u i).1 hi;rw[hn.mem_erase_iff] at this;exact this.1 rfl
  .rw[Ay,u j,hn.mem_erase_iff];constructor
   .rintro(rfl|h)
    .exact h1
    .exact h.2
   .intro h;by_cases e:j=i
    .exact .inl e
    .exact .inr ⟨e,h⟩
theorem aHy {E:List (List Nat)}:∀{A T:List Nat}{j:Nat}{B:List Nat},T.Nodup->okL E T (A++j::B)->∀k,k∈E.getD j []->k∈T->k∈A
 | [],T,j,B,_,h,k,hk,hT=>by
  have:=Aw.1 h.2.1 k hk;simp only[Bz,CV,BH] at this;exact(this hT).elim
 | i::A,T,j,B,hn,h,k,hk,hT=>by
  by_cases e:k=i
  .subst e;exact Da
  .exact Dh _ (aHy (hn.erase i) h.2.2 k hk (hn.mem_erase_iff.2 ⟨e,hT⟩))
def edL (ops:Array Oper):List (List Nat):=(List.range ops.size).map λi=>((ops[i]?).map λo=>(o.after.toList.filter λe=>Region.binds .any e).map (·.on)).getD []
theorem aEZ {ops:Array Oper}{i:Nat}{o:Oper} (h:ops[i]? = some o):(edL ops).getD i []=(o.after.toList.filter λe=>Region.binds .any e).map (·.on):=by
 have hi:i<ops.size:=(Cc.1 h).1;have u:i<(edL ops).length:=by simp[edL,hi]
 rw[Bc,Bf u];simp[edL,h]
theorem aIT {ops:Array Oper}{i:Nat}{o:Oper} (h:ops[i]? = some o) {T:List Nat}{l:Array Bool} (J:∀j,j<ops.size->(j∈T↔l.getD j false=false)) (L:∀e,e∈o.after->Region.binds .any e=true->e.on<ops.size) :
  tT (edL ops) T i=(o.after.all λe=>!Region.binds .any e||l.getD e.on false):=by
 unfold tT;rw[aEZ h,Bool.eq_iff_iff,Aw,Array.all_eq_true'];constructor
 .intro H e F;cases u:Region.binds .any e with
  |false=>rfl
  | true =>
   have h2:=H e.on (BG.2 ⟨e,BN.2 ⟨by simpa using F,u⟩,rfl⟩);simp only[Bz,CV,BH] at h2;have M:=(J e.on (L e F u));cases hl:l.getD e.on false with
   |true=>rfl
   |false=>exact(h2 (M.2 hl)).elim
 .intro H k O;obtain⟨e,F,rfl⟩:=BG.1 O;obtain⟨F,u⟩:=BN.1 F;have G:e∈o.after:=by simpa using F
  have h2:=H e G;rw[u] at h2;simp only[Bz,CV,BH];intro U;rw[(J e.on (L e G u)).1 U] at h2;simp at h2
def aDD (ops:Array Oper):Bool:=(List.range ops.size).all λi=>((ops[i]?).map λo=>o.after.toList.all λe=>!Region.binds .any e||decide (e.on<i)).getD true
theorem aBJ {ops:Array Oper} (h:aDD ops=true) {i:Nat}{o:Oper} (u:ops[i]? = some o):∀e,e∈o.after->Region.binds .any e=true->e.on<i:=by
 intro e G F;have hi:i<ops.size:=(Cc.1 u).1;have:=Aw.1 h i (BI.2 hi);rw[u] at this;have:=Aw.1 this e (by simpa using G);rw[F] at this;simpa using this
theorem aHu {ops:Array Oper} (J:aDD ops=true):∀(fuel:Nat) (u:Array Bool) (L T:List Nat),u.size=ops.size->T.Nodup->(∀j,j∈T↔j<ops.size∧u.getD j false=false)->T.length=fuel->L∈aBV ops fuel u->okL (edL ops) T L
 | 0,u,L,T,_,_,_,hl,h=>by
  rw[aBV,Ar] at h;subst h;exact List.length_eq_zero_iff.1 hl
 | fuel+1,u,L,T,hsz,hn,hT,hl,h=>by
  rw[aBV] at h
  have O:∀j,j<ops.size->u.getD j true=u.getD j false:=λj hj=>by
   have:j<u.size:=by omega
   simp[Array.getD,this]
  have hc:∀j,j<ops.size->(j∈T↔u.getD j false=false):=λj hj=>⟨λh=>((hT j).1 h).2,λh=>(hT j).2 ⟨hj,h⟩⟩
  have Y:∀i o,ops[i]? = some o->tT (edL ops) T i=(o.after.all λe=>!Region.binds .any e||u.getD e.on false):=λi o H=>aIT H hc λe M hb=>by
   have:=aBJ J H e M hb;have:=(Cc.1 H).1;omega
  generalize Z:((List.range ops.size).filter λi=>!u.getD i true&&((ops[i]?).map (·.after.all λe=>!Region.binds .any e||u.getD e.on false)).getD false)=rs at h;cases rs with
  | nil =>
   exfalso;have hg:T≠[]:=λe=>by rw[e] at hl;simp at hl
   obtain⟨x,hx⟩:=List.exists_mem_of_ne_nil _ hg;obtain⟨y,hy,V⟩:=@least ⟨[]⟩ (λy=>y∈T) ⟨x,hx⟩;obtain⟨h1,h2⟩:=(hT y).1 hy
   have:y∈(List.range ops.size).filter λi=>!u.getD i true&&((ops[i]?).map (·.after.all λe=>!Region.binds .any e||u.getD e.on false)).getD false:=by
    refine BN.2 ⟨BI.2 h1,?_⟩;rw[O y h1,h2];have H:ops[y]? = some ops[y]:=by simp[h1]
    rw[H];simp only[Cb,CX,Ba,BS];rw[←Y y _ H];unfold tT;refine Aw.2 λk hk=>?_;rw[aEZ H] at hk;obtain⟨e,M,rfl⟩:=BG.1 hk;obtain⟨M,hd⟩:=BN.1 M;have hp:=aBJ J H e (by simpa using M) hd;simp only[Bz,CV,BH];intro hm;have:=V _ hm;omega
   rw[Z] at this;cases this
  | cons y ys =>
   simp only[Dm,BG] at h;obtain⟨i,hi,L',ha,rfl⟩:=h;rw[←Z] at hi;obtain⟨G,F⟩:=BN.1 hi;have G:=BI.1 G;have H:ops[i]? = some ops[i]:=by simp[G]
   rw[H] at F;simp only[Au,Ba,BS] at F;obtain⟨F,hf⟩:=F;rw[O i G] at F;have U:i∈T:=(hT i).2 ⟨G,by simpa using F⟩;refine⟨U,(Y i _ H).trans hf,aHu J fuel (u.setIfInBounds i true) L' (T.erase i) (by simpa using hsz) (hn.erase i) (λj=>?_) (by rw[List.length_erase_of_mem U];omega) ha⟩;rw[hn.mem_erase_iff,hT j];by_cases e:j=i
   .subst e;have:j<u.size:=by omega
    simp[Array.getD,this]
   .rw[Array.getD_eq_getD_getElem?,Array.getD_eq_getD_getElem?,CY (DL e)];simp[e]
theorem aH7 {ops:Array Oper}{T:List Nat} (M:T.Nodup) (J:∀j,j<ops.size->j∈T) (u:aDD ops=true):∀(n i j:Nat) {A B:List Nat},okL (edL ops) T (A++j::B)->xA ops n i j=true->i∈A
 |0,i,j,A,B,_,h=>by simp[xA] at h
 | n+1,i,j,A,B,hok,h=>by
  unfold xA at h;split at h
  .rename_i o G;rw[←Array.any_toList,List.any_eq_true] at h;obtain⟨e,L,h⟩:=h;simp only[Au,Cn,Bj] at h;have F:e∈o.after:=by simpa using L
   have O:=aBJ u G e F h.1;have Y:=(Cc.1 G).1;have H:e.on∈A:=aHy M hok e.on (by rw[aEZ G];exact BG.2 ⟨e,BN.2 ⟨L,h.1⟩,rfl⟩) (J _ (by omega));rcases h.2 with h2|h2
   .rw[←h2];exact H
   .obtain⟨U,V,rfl⟩:=List.append_of_mem H;rw[Bp] at hok;exact BV _ (aH7 M J u n i e.on hok h2)
  .cases h
def aEU (ops:Array Oper):List Nat->List Nat->Bool
 |_,[]=>true
 | done,i::r=>(match ops[i]? with
   | some oi=>oi.guard.isNone&&aHA oi&&(match oi.op with|.move _=>true|.assign _=>true|.nilCheck _=>true|.fieldAddr _ _ _=>true|_=>false)&&(List.range ops.size).all λj=>j==i||done.contains j||xA ops ops.size i j||(match ops[j]? with
     |some oj=>oi.apart ops oj&&aHA oj
     |none=>false)
   |none=>false)&&aEU ops (i::done) r
def chkQ (ops:Array Oper) (E:List (List Nat)) (Ps:List Nat):Bool:=
 aDD ops&&((List.range ops.size).all λi=>(E.getD i []).all λk=>((edL ops).getD i []).contains k)&&decide (E.length=ops.size)&&Ps.all (λi=>decide (i<ops.size))&&aEU ops [] Ps
section
variable [I:Envs]
variable {P:Program}{nt:Nat}{Q:Exit->Act->World->Prop}
def vcO (P:Program) (K:St->Prop) (aops:List aL) (E:List (List Nat)):Nat->List Nat->St->Prop
 |0,_,σ=>K σ
 |m+1,T,σ=>OrK E T T (λi=>vc P (vcO P K aops E m (T.erase i)) [aops.getD i default] σ) .x
theorem aI6 {C:Ctx}{K:St->Prop}{aops:List aL}{E:List (List Nat)} (F:∀a w,dP C K a w->Q .normal a w):∀(L T:List Nat) (σ:St) (a:Act) (w:World) (S:Nat->Prop) (ρ:Name->Option Nat) (κ:Name->Nat),okL E T L->vcO P K aops E T.length T σ->OK C σ.f a w S ρ κ->RgL P C.nt (L.map λi=>aops.getD i default) Q a w
 | [],T,σ,a,w,S,ρ,κ,h,hv,hok=>by
  obtain rfl:T=[]:=h;exact RgL.nil (F a w ⟨σ,S,ρ,κ,hv,hok⟩)
 | i::L,T,σ,a,w,S,ρ,κ,⟨h1,h2,h3⟩,hv,hok=>by
  obtain⟨m,G⟩:∃m,T.length=m+1:=⟨T.length-1,by have:=Cx h1;omega⟩;rw[G,vcO] at hv;have:=hv i h1 h2;refine RgL.fw (pre:=[aops.getD i default]) (fun σ' H w' S' ρ' κ' J u=>?_) σ a w S ρ κ this hok;refine aI6 F L (T.erase i) σ' H w' S' ρ' κ' h3 ?_ u;rw[List.length_erase_of_mem h1,G];exact J
def pv (σ:St):AOp->Option AV
 |.mv x=>some (evO (look σ.s) x)
 | .nilc x=>match evO (look σ.s) x with
  |.ptr n e c=>if(aB σ.h n).isSome then some (.ptr n e c) else none
  |_=>none
 | .fieldAddr off x=>match evO (look σ.s) x with
  |.ptr n e c=>if(aB σ.h n).isSome then some (.ptr n e (c+off)) else none
  |_=>none
 |_=>none
def vcF (K:St->Prop):List aL->St->Prop
 | [],σ=>K σ
 | o::r,σ=>match o.guard,o.dst,pv σ o.op with
  |none,some d,some x=>vcF K r ⟨(d,x)::σ.s,σ.h⟩
  |_,_,_=>False
theorem aIu {C:Ctx}{a:Act}{w:World}{S:Nat->Prop}{ρ:Name->Option Nat}{κ:Name->Nat}{σ:St} (H:OK C σ.f a w S ρ κ) {ops:Array Oper}{o:Oper}{ao:aL} (hc:nA P C.nt ops o=some ao.bare) (hg:o.guard=none) {x:AV} (F:pv σ ao.op=some x)
  (hm:(match o.op with|.move _=>true|.assign _=>true|.nilCheck _=>true|.fieldAddr _ _ _=>true|_=>false)=true):∃v,RV S w ρ κ σ.f.h x v∧Yields P ops o v a:=by
 obtain⟨G,h2,h3,h4⟩:=iJ hc;have Y:∀tm,Region.wanted o tm=true:=λtm=>by simp[Region.wanted,hg]
 obtain⟨ha,u,gd⟩:=ao;cases hop:o.op<;>rw[hop] at hm<;>(first|(exfalso;simp at hm;done)|skip)
 case move y =>
  rw[hop] at G
  have e:u=.mv y:=by
   simp only[comp,Aj] at G;cases u<;>simp_all [AOp.bare,AOp.bare0]
  subst e;simp only[pv,Aj] at F;subst F;exact⟨a.eval y,H.ev y,.inl ⟨Y _,λw=>by simp[execOp,hop]⟩⟩
 case assign y =>
  rw[hop] at G
  have e:u=.mv y:=by
   simp only[comp,Aj] at G;cases u<;>simp_all [AOp.bare,AOp.bare0]
  subst e;simp only[pv,Aj] at F;subst F;exact⟨a.eval y,H.ev y,.inl ⟨Y _,λw=>by simp[execOp,hop]⟩⟩
 case nilCheck y =>
  rw[hop] at G
  have e:u=.nilc y:=by
   simp only[comp,Aj] at G;cases u<;>simp_all [AOp.bare,AOp.bare0]
  subst e;have M:=H.ev y;simp only[pv] at F;split at F
  .rename_i n e c L;split at F
   .rename_i hs;obtain rfl:=Av F;obtain⟨b,U⟩:=AQ.1 hs;rw[show evO σ.f.s y=_ from L] at M;obtain⟨z,hz,J⟩:=eG M b U;refine⟨a.eval y,M,.inl ⟨Y _,λw=>?_⟩⟩;rw[J];simp[execOp,hop,J]
   .cases F
  .cases F
 case fieldAddr s y i =>
  rw[hop] at G;simp only[comp] at G;split at G
  .rename_i f V;split at G
   .rename_i n0 hn;simp only[Aj] at G
    have O:∀w b o,(Instr.fieldAt s (.pointer (some ⟨b,o,none⟩)) i).run P w=.ok (.pointer (some ⟨b,o+f.offset,none⟩)) w:=by
     intro w b o;unfold wL at V;split at V
     .rename_i fs hu;simp[Instr.fieldAt,run_underlying hu,V,Instr.sureAddr,fieldPlace,run_sizeOf hn,addr_add]
     .cases V
    have e:u=.fieldAddr f.offset y∨u=.fieldV f.offset y:=by
     cases u<;>simp_all [AOp.bare,AOp.bare0]
    rcases e with rfl|rfl
    .have M:=H.ev y;simp only[pv] at F;split at F
     .rename_i n e c L;split at F
      .rename_i hs;obtain rfl:=Av F;obtain⟨b,U⟩:=AQ.1 hs;rw[show evO σ.f.s y=_ from L] at M;obtain⟨z,hz,J⟩:=eG M b U;refine⟨.pointer (some ⟨z,e*b.k+c+f.offset,none⟩),.ptr _ _ _ _ λb' Z=>?_,.inl ⟨Y _,λw=>?_⟩⟩
       .have:b=b':=Av (U.symm.trans Z);subst this;exact⟨z,hz,by rw[Cy]⟩
       .simp only[execOp,hop];rw[J];have:=O w z (e*b.k+c);simp only[Sem.run_bind,this,Result.andThen_ok,Sem.run_pure]
      .cases F
     .cases F
    .simp[pv] at F
   .cases G
  .cases G
theorem aEf {C:Ctx}{ops:Array Oper}{aops:List aL}{K:St->Prop} (hQ:∀c a w,¬Q (.panic c) a w) (O:aDD ops=true) (F:∀i,i<ops.size->∃o,ops[i]? = some o∧nA P C.nt ops o=some (aops.getD i default).bare) {L0:List Nat} (hL:okL (edL ops) (List.range ops.size) L0) :
  ∀ (Ps done:List Nat) (σ:St) (a:Act) (w:World) (S:Nat->Prop) (ρ:Name->Option Nat) (κ:Name->Nat),(Ps.all λi=>decide (i<ops.size))=true->(∀i,i∈Ps->i∉done)->Ps.Nodup->aEU ops done Ps=true->vcF K (Ps.map λi=>aops.getD i default) σ->OK C σ.f a w S ρ κ->
   (∀(σ:St) (a:Act) (w:World) (S:Nat->Prop) (ρ:Name->Option Nat) (κ:Name->Nat),K σ->OK C σ.f a w S ρ κ->wpOps P ops Q (L0.filter λj=>!(Ps.reverse++done).contains j) a w)->
   wpOps P ops Q (L0.filter λj=>!done.contains j) a w
 | [],done,σ,a,w,S,ρ,κ,_,_,_,_,hv,hok,hfin=>by
  have:=hfin σ a w S ρ κ hv hok;simpa using this
 | p::Ps,done,σ,a,w,S,ρ,κ,hlt,hnd,hno,hf,hv,hok,hfin=>by
  simp only[BO,Au,Bb] at hlt;obtain⟨oi,ho,U⟩:=F p hlt.1;simp only[aEU,ho,Au,Aw,BI] at hf;obtain⟨⟨⟨⟨hg,hs⟩,hl⟩,hc⟩,hk⟩:=hf;have hg:oi.guard=none:=by simpa using hg
  have hq:p∉done:=hnd p Da;obtain⟨ha,Z⟩:=aBq List.nodup_range hL;have hp:p∈L0:=(Z p).2 (BI.2 hlt.1);obtain⟨A,B,rfl⟩:=List.append_of_mem hp;have J:p∉A:=λh=>(List.nodup_append.1 ha).2.2 p h p Da rfl;have hm:p∉B:=(DI.1 (List.nodup_append.1 ha).2.1).1
  have u:(A++p::B).filter (λj=>!done.contains j)=A.filter (λj=>!done.contains j)++p::B.filter (λj=>!done.contains j):=by
   rw[List.filter_append,List.filter_cons_of_pos (by simpa using hq)]
  have L:(A++p::B).filter (λj=>!(p::done).contains j)=A.filter (λj=>!done.contains j)++B.filter (λj=>!done.contains j):=by
   rw[List.filter_append,List.filter_cons_of_neg (by simp)];congr 1
   .refine List.filter_congr λx hx=>?_;have:x≠p:=λe=>J (e ▸ hx);simp[this]
   .refine List.filter_congr λx hx=>?_;have:x≠p:=λe=>hm (e ▸ hx);simp[this]
  rw[u];simp only[AU,vcF] at hv;split at hv
  .rename_i d x hu hd hr;obtain⟨v,ht,hy⟩:=aIu hok U hg hr hl;obtain⟨c1,c2,c3,_⟩:=iJ U;have G:oi.dst=some d:=c2.trans hd;refine aBP ho (aC3 hs) hQ _ _ a w (λj hj=>?_) hy ?_
   .obtain⟨H,V⟩:=BN.1 hj;have Y:j<ops.size:=BI.1 ((Z j).1 (BV _ H));have:=hc j Y;simp only[Cn,Bj] at this;rcases this with((h|h)|h)|h
    .exact(J (h ▸ H)).elim
    .rw[h] at V;simp at V
    .exfalso;obtain⟨A1,A2,rfl⟩:=List.append_of_mem H;have M:=hL;rw[Bp,Ad] at M;have:=aH7 List.nodup_range (λj hj=>BI.2 hj) O ops.size p j M h;exact J (BV _ this)
    .split at h
     .rename_i oj hn;simp only[Au] at h;exact⟨oj,hn,h.1,aC3 h.2⟩
     .cases h
   .rw[←L,G]
    have hb:OK C (⟨(d,x)::σ.s,σ.h⟩:St).f (a.put (some d) v) w S ρ κ:=by
     have:=hok.put (d:=some d) ht (λd' he=>by
       obtain rfl:=Av he;exact c3 _ G)
     have e:(⟨(d,x)::σ.s,σ.h⟩:St).f=⟨upd σ.f.s (some d) x,σ.f.h⟩:=by
      simp[St.f,look,upd,eq_comm]
     rw[e];exact this
    refine aEf hQ O F hL Ps (p::done) _ _ w S ρ κ hlt.2 (λi hi=>?_) (DI.1 hno).2 hk hv hb (fun σ a w S ρ κ h1 h2=>?_)
    .intro h;rcases Ay.1 h with rfl|h
     .exact(DI.1 hno).1 hi
     .exact hnd i (Dh _ hi) h
    .have:=hfin σ a w S ρ κ h1 h2;rw[show(p::Ps).reverse++done=Ps.reverse++(p::done) by simp] at this;exact this
  .exact hv.elim
def drQ (P:Program) (Z:List (List (List Nat)×List Nat)) (nt:Nat) (ops:Array Oper):Option (List Nat):=
 if Z.any λz=>ops.size==z.1.length&&chkQ ops z.1 z.2 then some [3000000] else(fK P nt ops).bind λfl=>if fl.contains 3000000 then none else some fl
theorem aKA (L:P.follows .mixedOrders=true) (Z:List (List (List Nat)×List Nat)):lL P (drQ P Z):=by
 intro C M ops aops O K Q σ a w S ρ κ u H h2;unfold drQ at u;split at u
 .obtain rfl:=Av u;simp[aBz] at h2
 .obtain⟨F,J,G⟩:=Ca.1 u;split at G
  .cases G
  .obtain rfl:=Av G;exact qA L C M ops aops F K Q σ a w S ρ κ J H h2
theorem oC.rgO {C:Ctx}{N:St->Prop}{X:kT->St->Prop}{σ:St} (hm:P.follows .mixedOrders=true) {Z:List (List (List Nat)×List Nat)}{E:List (List Nat)}{Ps:List Nat} (hZ:(Z.all λz=>!(z.1.length==E.length)||z==(E,Ps))=true) (hw:Ps.Nodup) {aops:List aL}{O:List Nat} (hn:aops.length=E.length)
  {T0:List Nat} (h0:(List.range E.length).filter (λj=>!Ps.reverse.contains j)=T0) {n:Nat} (qa:T0.length=n) {M:List aL} (qd:(Ps.map λi=>aops.getD i default)=M) (h:vcF (vcO P (fun σ'=>N ⟨wT σ'.s O,σ'.h⟩) aops E n T0) M σ):oC P C (drQ P Z) (.region aops O [3000000]) N X σ:=by
 subst qa;subst h0;subst qd;intro c Q0 a w S ρ κ u hN _ _ qc;cases c
 case region id ops draw =>
  refine Code.wp_mono (Q:=λe a w=>Q0 e a w∧∀c,e≠.panic c) (λe a w h=>h.1) ?_;generalize U:(λ(e:Exit) a w=>Q0 e a w∧∀c,e≠.panic c)=Q;have hy:∀c a w,¬Q (.panic c) a w:=λc a w hq=>by rw[←U] at hq;exact hq.2 c rfl
  have hx:∀a w,dP C N a w->Q .normal a w:=λa w hg=>by rw[←U];exact⟨hN a w hg,λc e=>by cases e⟩
  simp only[bM,aF.bare] at u;split at u
  .rename_i ht F;cases ho:aCg P C.nt ops ops.toList with
   |none=>rw[ho] at u;cases u
   | some l =>
    rw[ho] at u;simp only[Ba,Aj,aF.region.injEq,Ci] at u;obtain⟨hl,h1⟩:=u;subst hl;subst h1;cases draw with
    |false=>simp at F
    | true =>
     have hd:drQ P Z C.nt ops=some [3000000]:=by simpa using F
     obtain⟨g1,g2⟩:=mZ ho;have he:ops.size=aops.length:=by simpa using g1
     have hb:chkQ ops E Ps=true:=by
      unfold drQ at hd;split at hd
      .rename_i Y;obtain⟨z,hz,J⟩:=List.any_eq_true.1 Y;simp only[Au,Bj] at J;have V:=Aw.1 hZ z hz;have h8:z.1.length=E.length:=by rw[←J.1,he,hn]
       simp only[h8,Dj,BP,De,Bj] at V;rw[V] at J;exact J.2
      .obtain⟨ht,h3,h4⟩:=Ca.1 hd;split at h4
       .cases h4
       .rename_i qb;obtain rfl:=Av h4;simp at qb
     simp only[chkQ,Au,Bb] at hb;obtain⟨⟨⟨⟨ha,hE⟩,hu⟩,hv⟩,h5⟩:=hb;refine wp_region_draw λt=>?_;rw[hm];have hf:=aG8 ops t
     have hL:okL (edL ops) (List.range ops.size) (Region.schedule true ops t):=aHu ha ops.size _ _ _ (by simp) List.nodup_range (λj=>by
       simp only[BI];constructor
       . intro h
         exact⟨h,by simp only[Array.getD_eq_getD_getElem?,Array.getElem?_replicate];split<;>rfl⟩
       . exact λh=>h.1) (by simp) hf
     generalize Region.schedule true ops t=L0 at hL
     have L:∀i,i<ops.size->∃o,ops[i]? = some o∧nA P C.nt ops o=some (aops.getD i default).bare:=λi hi=>by
      have h6:i<aops.length:=by omega
      obtain⟨o,q1,q2⟩:=g2 i (aops.getD i default) (by simp[h6]);exact⟨o,by simpa using q1,q2⟩
     have G:OK C σ.f a {w with drawn:=w.drawn+1} S ρ κ:=qc.ext (Ext.of_heap rfl rfl rfl);have hs:=aEf (Q:=Q) hy ha L hL Ps [] σ a {w with drawn:=w.drawn+1} S ρ κ hv (λ_ _ h=>by cases h) hw h5 h G (fun σ' a' w' S' ρ' κ' hk hp=>?_)
     .have e:L0.filter (λj=>!([]:List Nat).contains j)=L0:=List.filter_eq_self.2 λ_ _=>by simp
      rw[e] at hs;exact hs
     .have hr:okL E (List.range ops.size) L0:=aFq (λi k hk=>by
        by_cases hi:i<ops.size
        . have:=Aw.1 (Aw.1 hE i (BI.2 hi)) k hk
          simpa using this
        . rw[Bc,Cr (by omega)] at hk
          cases hk) hL
      have H:=aC0 (λj=>!(Ps.reverse++[]).contains j) List.nodup_range hr;rw[AA] at H⊢;have h9:=(aBq List.nodup_range hL).2;rw[show ops.size=E.length from hu.symm] at H
      have qe:=aI6 (Q:=Q) (C:=C) (K:=fun σ'=>N ⟨wT σ'.s O,σ'.h⟩) (aops:=aops) (E:=E) (λa w hg=>hx a w (by
        obtain⟨σ',S',ρ',κ',hK,G⟩:=hg;exact⟨_,S',ρ',κ',hK,G.less (aBu _ _) (λ_ _ h=>h)⟩)) _ _ σ' a' w' S' ρ' κ' H hk hp
      refine qe ops _ (by simp) λj ao hj=>?_;simp only[BQ,Cv] at hj;obtain⟨i,hi,rfl⟩:=hj;have h7:i∈L0:=(BN.1 (BU hi)).1;obtain⟨o,q1,q2⟩:=L i (BI.1 ((h9 i).1 h7));exact⟨i,o,hi,q1,q2⟩
  .cases u
 all_goals(simp only[bM,aF.bare] at u;first|(cases u;done)|(split at u<;>simp at u)|(simp at u))
theorem RgK.ord (O:P.follows .mixedOrders=true) {C:Ctx}{N:St->Prop}{X:kT->St->Prop}{σ:St}{Z:List (List (List Nat)×List Nat)} (E:List (List Nat)) (Ps:List Nat) {aops:List aL}{F:List Nat}{b:Bool}{A:Prop}{t:Tag (b,A,oC P C (drQ P Z) (.region aops F [3000000]) N X σ)} (U:aops.length=E.length) (M:(Z.all λz=>!(z.1.length==E.length)||z==(E,Ps))=true) (G:Ps.Nodup)
  {T0:List Nat} (H:(List.range E.length).filter (λj=>!Ps.reverse.contains j)=T0) {n:Nat} (J:T0.length=n) {u:List aL} (L:(Ps.map λi=>aops.getD i default)=u) (h:vcF (vcO P (fun σ'=>N ⟨wT σ'.s F,σ'.h⟩) aops E n T0) u σ):RgK b A (oC P C (drQ P Z) (.region aops F [3000000]) N X σ) t:=
 .inr (oC.rgO O M G U H J L h)
def wQ (P:Program) (Z:List (List (List Nat)×List Nat)) (f:FuncId) (fn:Func) (ac:aF):Prop:=
 P.funcs[f]? = some fn∧(fn.body.bind (bM P fn.ntmps (drQ P Z)))=some ac.bare∧(fn.name != "runtime.NumGoroutine")=true
theorem wQ.fn {Z:List (List (List Nat)×List Nat)}{f:FuncId}{fn:Func}{ac:aF} (h:wQ P Z f fn ac) (hm:P.follows .mixedOrders=true) {hin:List Blk}{args:List AV}{r:AV}{u:List (Option Blk)} (nt:Nat) (rs:List ResultVar) (B:List Name) (hout:List Blk) (H:fn.ntmps=nt) (J:fn.results.toList=rs)
  (ho:u=hout.map some) (F:args.length<=nt) (G:nodupB B=true) (U:∀j,j<hin.length->B[j]? = some (.b j))
  (hw:∀C:Ctx,wpc P C (drQ P Z) ac (aAQ P rs B r hout) (λe σ=>match e with|.ret=>aAQ P rs B r hout σ|.exit _=>False) ⟨ini 0 args,xW 0 hin⟩) :
  Fn P f hin args r u:=by
 subst H;subst J;subst ho;obtain⟨M,h2,O⟩:=h;obtain⟨L,V,Y⟩:=Ca.1 h2;exact Fn.intro (aKA hm Z) B M V (by simpa using O) Y F (pQ G) U λC _=>hw C
end
end
end Go.Vs
