/- Functions that borrow a row, walked by pieces; a row that is handed over beside it. -/
import Derived.Test.YtklmdppgonhflaaGreatDoorVuK
import Derived.Deep.Upon
import Derived.Deep.Draws
import Derived.Lib.SliceRun
import Derived.Laws.AppendOwn
set_option linter.all false
set_option maxHeartbeats 8000000
namespace Go.Vs
section
section
variable [Envs]
variable {P:Program}
open Go.RowKit
end
end
section
variable {P:Program}{I:Envs}{C1:Ctx}{σ τ:St}{a:Act}{w:World}{S:Nat->Prop}
theorem aAz.of_own {S:Nat->Prop}{w:World}{x:Option Nat}{c k:Nat}{rows:List (List AV)}{v:Value} (J:Own S w x c k rows v) {ρ:Name->Option Nat}{κ:Name->Nat}{h:Name->Option Blk}{n:Name} (G:ρ n=x) (h2:κ n=c) (H:h n=some (.arr k rows false)):aAz ρ κ h n 0 rows.length v:=by
 intro M O U F;rw[H] at F;obtain⟨rfl,rfl,rfl⟩:k=M∧rows=O∧false=U:=by simpa using F
 have:=J.loc k rows false rfl;subst G;subst h2;exact this
end
section
variable {P:Program}
section
variable [Envs]
end
end
section
variable {P:Program}
section
variable [Envs]
end
end
section
variable {P:Program}
variable [Envs]
theorem aOe {S:Nat->Prop}{w:World}{n:Nat}{x y:AV}{v:Value} (h:RC S w (.sl 1 (List.replicate n [x])) v) (M:∀u,RC S w x u->RC S w y u):RC S w (.sl 1 (List.replicate n [y])) v:=by
 generalize Z:List.replicate n [x]=L at h;cases h with
 | sl _ _ base cap z off ys hb hc ho hrr hk hcap =>
  subst Z;have e:(List.replicate n [x]).length=(List.replicate n [y]).length:=by simp
  have U:(List.replicate n [x]).length=n:=by simp
  have F:(List.replicate n [y]).length=n:=by simp
  rw[e];refine .sl 1 _ base cap z off ys (λJ=>hb (λh=>J ?_)) (λi j hi H=>hc i j (by rw[e];exact hi) H) (λi j hi H=>ho i j (by rw[e];exact hi) H) (λi j hi H=>?_) (λi hi=>?_) (by rw[←e];exact hcap)
  .cases n with
   |zero=>rfl
   |succ n=>simp[Af] at h
  .obtain rfl:j=0:=by omega
   have G:i<n:=by rw[F] at hi;exact hi
   have O:=hrr i 0 (by rw[e];exact hi) (by omega);have V:((List.replicate n [x]).getD i []).getD 0 .junk=x:=by simp[G]
   have Y:((List.replicate n [y]).getD i []).getD 0 .junk=y:=by simp[G]
   rw[V] at O;rw[Y];exact M _ O
  .rw[F] at hi;simp[hi]
theorem Fn.asB {f:FuncId}{hin:List Blk}{ys:List AV}{r F:AV}{hout:List (Option Blk)} (h:Fn P f hin ys r hout) (G:nQ r=true) (H:∀S w v,RC S w r v->RC S w F v):Fn P f hin ys F hout:=
 ⟨h.1,λS w ρ κ vs a b c d=>(h.2 S w ρ κ vs a b c d).mono λe w' ⟨v,S',ρ',κ',h1,h2,h3⟩=>⟨v,S',ρ',κ',h1,h2,.clo (H _ _ _ (h3.closed G))⟩⟩
theorem aA.ownL {f:FuncId}{ys:List AV}{L:List Name}{d:Option Nat}{σ:St}{K:St->Prop}{t:Tag K}{r:AV}{hout:List (Option Blk)} (F:Fn P f [] ys r hout) (G:jB (d.getD 0) 0 hout.length σ=true)
  (H:K ⟨put d (rn (phi [] (d.getD 0) hout.length) r) σ.s,yA σ.h [] (d.getD 0) hout true L⟩):aA P f [] ys L d σ [] K t:=
 ⟨r,hout,true,F,λh=>(by cases h),G,H⟩
end
section
section
variable [Envs]
variable {P:Program}{nt:Nat}{Q:Exit->Act->World->Prop}
end
section
variable [I:Envs]
variable {P:Program}{nt:Nat}{Q:Exit->Act->World->Prop}{a:Act}{w:World}
end
end
section
def uT (E:List (List Nat)) (T:List Nat) (i:Nat):Bool:=(E.getD i []).all λk=>!T.contains k
def OrK (E:List (List Nat)) (T R:List Nat) (f:Nat->Prop) (_:Tag f):Prop:=∀i,i∈R->uT E T i=true->f i
theorem OrK.nil {E:List (List Nat)}{T:List Nat}{f:Nat->Prop}{t:Tag f}:OrK E T [] f t:=λi hi=>by cases hi
theorem OrK.yes {E:List (List Nat)}{T r:List Nat}{f:Nat->Prop}{t:Tag f}{x:Nat} (_:uT E T x=true) (F:f x) (h2:OrK E T r f t):OrK E T (x::r) f t:=λi hi G=>by
 rcases Am.1 hi with rfl|hi
 .exact F
 .exact h2 i hi G
theorem OrK.no {E:List (List Nat)}{T r:List Nat}{f:Nat->Prop}{t:Tag f}{x:Nat} (h:uT E T x=false) (h2:OrK E T r f t):OrK E T (x::r) f t:=λi hi F=>by
 rcases Am.1 hi with rfl|hi
 .rw[h] at F;cases F
 .exact h2 i hi F
def okL (E:List (List Nat)):List Nat->List Nat->Prop
 |T,[]=>T=[]
 |T,i::L=>i∈T∧uT E T i=true∧okL E (T.erase i) L
theorem aF5 {E F:List (List Nat)} (h:∀i k,k∈F.getD i []->k∈E.getD i []):∀{L T:List Nat},okL E T L->okL F T L
 | [],_,hl=>hl
 | i :: L,T,⟨h1,h2,h3⟩=>⟨h1,by
     unfold uT at h2⊢;exact Az.2 λk G=>Az.1 h2 k (h i k G),aF5 h h3⟩
theorem aDr {E:List (List Nat)} (p:Nat->Bool):∀{L T:List Nat},T.Nodup->okL E T L->okL E (T.filter p) (L.filter p)
 | [],T,_,h=>by
  obtain rfl:T=[]:=h;rfl
 | i::L,T,hn,⟨h1,h2,h3⟩=>by
  have F:=aDr p (hn.erase i) h3;by_cases G:p i=true
  .rw[List.filter_cons_of_pos G];refine⟨Dm.2 ⟨h1,G⟩,?_,?_⟩
   .unfold uT at h2⊢;refine Az.2 λk J=>?_;have:=Az.1 h2 k J;simp only[BB,List.contains_eq_mem,BD] at this⊢;exact λh=>this (Dm.1 h).1
   .rw[hn.erase_eq_filter,List.filter_filter] at F;rw[List.Nodup.erase_eq_filter (hn.filter p),List.filter_filter];have e:(List.filter (λa=>p a&&(a != i)) T)=(List.filter (λa=>(a != i)&&p a) T):=List.filter_congr λx _=>by cases p x<;>cases(x != i)<;>rfl
    first|exact F|(rw[e] at F;exact F)|(rw[←e] at F;exact F)
  .rw[List.filter_cons_of_neg G];rw[hn.erase_eq_filter,List.filter_filter] at F
   have e:List.filter (λa=>p a&&(a != i)) T=List.filter p T:=List.filter_congr λx _=>by
    by_cases H:x=i
    .subst H;simp at G;simp[G]
    .simp[H]
   rw[e] at F;exact F
theorem aBM {E:List (List Nat)}:∀{L T:List Nat},T.Nodup->okL E T L->L.Nodup∧∀j,j∈L↔j∈T
 | [],T,_,h=>by
  obtain rfl:T=[]:=h;simp
 | i::L,T,hn,⟨h1,_,h3⟩=>by
  obtain⟨G,F⟩:=aBM (hn.erase i) h3;refine⟨List.nodup_cons.2 ⟨λhi=>?_,G⟩,λj=>?_⟩
  .have:=(F i).1 hi;rw[hn.mem_erase_iff] at this;exact this.1 rfl
  .rw[Am,F j,hn.mem_erase_iff];constructor
   .rintro(rfl|h)
    .exact h1
    .exact h.2
   .intro h;by_cases e:j=i
    .exact .inl e
    .exact .inr ⟨e,h⟩
theorem aIq {E:List (List Nat)}:∀{A T:List Nat}{j:Nat}{B:List Nat},T.Nodup->okL E T (A++j::B)->∀k,k∈E.getD j []->k∈T->k∈A
 | [],T,j,B,_,h,k,hk,hT=>by
  have:=Az.1 h.2.1 k hk;simp only[BB,List.contains_eq_mem,BD] at this;exact(this hT).elim
 | i::A,T,j,B,hn,h,k,hk,hT=>by
  by_cases e:k=i
  .subst e;exact Dn
  .exact C8 _ (aIq (hn.erase i) h.2.2 k hk (hn.mem_erase_iff.2 ⟨e,hT⟩))
def edL (ops:Array Oper):List (List Nat):=(List.range ops.size).map λi=>((ops[i]?).map λo=>(o.after.toList.filter λe=>Region.binds .any e).map (·.on)).getD []
theorem aFx {ops:Array Oper}{i:Nat}{o:Oper} (h:ops[i]? = some o):(edL ops).getD i []=(o.after.toList.filter λe=>Region.binds .any e).map (·.on):=by
 have hi:i<ops.size:=(Da.1 h).1;have F:i<(edL ops).length:=by simp[edL,hi]
 rw[A8,Ba F];simp[edL,h]
theorem aJX {ops:Array Oper}{i:Nat}{o:Oper} (h:ops[i]? = some o) {T:List Nat}{l:Array Bool} (M:∀j,j<ops.size->(j∈T↔l.getD j false=false)) (O:∀e,e∈o.after->Region.binds .any e=true->e.on<ops.size) :
  uT (edL ops) T i=(o.after.all λe=>!Region.binds .any e||l.getD e.on false):=by
 unfold uT;rw[aFx h,Bool.eq_iff_iff,Az,Array.all_eq_true'];constructor
 .intro J e G;cases F:Region.binds .any e with
  |false=>rfl
  | true =>
   have h2:=J e.on (Bq.2 ⟨e,Dm.2 ⟨by simpa using G,F⟩,rfl⟩);simp only[BB,List.contains_eq_mem,BD] at h2;have U:=(M e.on (O e G F));cases hl:l.getD e.on false with
   |true=>rfl
   |false=>exact(h2 (U.2 hl)).elim
 .intro J k V;obtain⟨e,G,rfl⟩:=Bq.1 V;obtain⟨G,F⟩:=Dm.1 G;have H:e∈o.after:=by simpa using G
  have h2:=J e H;rw[F] at h2;simp only[BB,List.contains_eq_mem,BD];intro Y;rw[(M e.on (O e H F)).1 Y] at h2;simp at h2
def aD2 (ops:Array Oper):Bool:=(List.range ops.size).all λi=>((ops[i]?).map λo=>o.after.toList.all λe=>!Region.binds .any e||decide (e.on<i)).getD true
theorem aB7 {ops:Array Oper} (h:aD2 ops=true) {i:Nat}{o:Oper} (F:ops[i]? = some o):∀e,e∈o.after->Region.binds .any e=true->e.on<i:=by
 intro e H G;have hi:i<ops.size:=(Da.1 F).1;have:=Az.1 h i (Co.2 hi);rw[F] at this;have:=Az.1 this e (by simpa using H);rw[G] at this;simpa using this
theorem aIl {ops:Array Oper} (M:aD2 ops=true):∀(fuel:Nat) (F:Array Bool) (L T:List Nat),F.size=ops.size->T.Nodup->(∀j,j∈T↔j<ops.size∧F.getD j false=false)->T.length=fuel->L∈aCj ops fuel F->okL (edL ops) T L
 | 0,F,L,T,_,_,_,hl,h=>by
  rw[aCj,Av] at h;subst h;exact List.length_eq_zero_iff.1 hl
 | fuel+1,F,L,T,hsz,hn,hT,hl,h=>by
  rw[aCj] at h
  have U:∀j,j<ops.size->F.getD j true=F.getD j false:=λj hj=>by
   have:j<F.size:=by omega
   simp[Array.getD,this]
  have hd:∀j,j<ops.size->(j∈T↔F.getD j false=false):=λj hj=>⟨λh=>((hT j).1 h).2,λh=>(hT j).2 ⟨hj,h⟩⟩
  have Z:∀i o,ops[i]? = some o->uT (edL ops) T i=(o.after.all λe=>!Region.binds .any e||F.getD e.on false):=λi o J=>aJX J hd λe O hb=>by
   have:=aB7 M J e O hb;have:=(Da.1 J).1;omega
  generalize ha:((List.range ops.size).filter λi=>!F.getD i true&&((ops[i]?).map (·.after.all λe=>!Region.binds .any e||F.getD e.on false)).getD false)=rs at h;cases rs with
  | nil =>
   exfalso;have hp:T≠[]:=λe=>by rw[e] at hl;simp at hl
   obtain⟨x,hx⟩:=List.exists_mem_of_ne_nil _ hp;obtain⟨y,hy,Y⟩:=@least ⟨[]⟩ (λy=>y∈T) ⟨x,hx⟩;obtain⟨h1,h2⟩:=(hT y).1 hy
   have:y∈(List.range ops.size).filter λi=>!F.getD i true&&((ops[i]?).map (·.after.all λe=>!Region.binds .any e||F.getD e.on false)).getD false:=by
    refine Dm.2 ⟨Co.2 h1,?_⟩;rw[U y h1,h2];have J:ops[y]? = some ops[y]:=by simp[h1]
    rw[J];simp only[Cs,CW,AU,Cc];rw[←Z y _ J];unfold uT;refine Az.2 λk hk=>?_;rw[aFx J] at hk;obtain⟨e,O,rfl⟩:=Bq.1 hk;obtain⟨O,hf⟩:=Dm.1 O;have hq:=aB7 M J e (by simpa using O) hf;simp only[BB,List.contains_eq_mem,BD];intro hm;have:=Y _ hm;omega
   rw[ha] at this;cases this
  | cons y ys =>
   simp only[Dz,Bq] at h;obtain⟨i,hi,L',hc,rfl⟩:=h;rw[←ha] at hi;obtain⟨H,G⟩:=Dm.1 hi;have H:=Co.1 H;have J:ops[i]? = some ops[i]:=by simp[H]
   rw[J] at G;simp only[Aw,AU,Cc] at G;obtain⟨G,hg⟩:=G;rw[U i H] at G;have V:i∈T:=(hT i).2 ⟨H,by simpa using G⟩;refine⟨V,(Z i _ J).trans hg,aIl M fuel (F.setIfInBounds i true) L' (T.erase i) (by simpa using hsz) (hn.erase i) (λj=>?_) (by rw[List.length_erase_of_mem V];omega) hc⟩;rw[hn.mem_erase_iff,hT j];by_cases e:j=i
   .subst e;have:j<F.size:=by omega
    simp[Array.getD,this]
   .rw[Array.getD_eq_getD_getElem?,Array.getD_eq_getD_getElem?,CL (DN e)];simp[e]
theorem aI5 {ops:Array Oper}{T:List Nat} (U:T.Nodup) (M:∀j,j<ops.size->j∈T) (F:aD2 ops=true):∀(n i j:Nat) {A B:List Nat},okL (edL ops) T (A++j::B)->x9 ops n i j=true->i∈A
 |0,i,j,A,B,_,h=>by simp[x9] at h
 | n+1,i,j,A,B,hok,h=>by
  unfold x9 at h;split at h
  .rename_i o H;rw[←Array.any_toList,List.any_eq_true] at h;obtain⟨e,O,h⟩:=h;simp only[Aw,Ct,BO] at h;have G:e∈o.after:=by simpa using O
   have V:=aB7 F H e G h.1;have hj:=(Da.1 H).1;have J:e.on∈A:=aIq U hok e.on (by rw[aFx H];exact Bq.2 ⟨e,Dm.2 ⟨O,h.1⟩,rfl⟩) (M _ (by omega));rcases h.2 with h2|h2
   .rw[←h2];exact J
   .obtain⟨Y,Z,rfl⟩:=List.append_of_mem J;rw[Bz] at hok;exact Cq _ (aI5 U M F n i e.on hok h2)
  .cases h
def aFu (ops:Array Oper):List Nat->List Nat->Bool
 |_,[]=>true
 | done,i::r=>(match ops[i]? with
   | some oi=>oi.guard.isNone&&aIs oi&&(match oi.op with|.move _=>true|.assign _=>true|.nilCheck _=>true|.fieldAddr _ _ _=>true|_=>false)&&(List.range ops.size).all λj=>j==i||done.contains j||x9 ops ops.size i j||(match ops[j]? with
     |some oj=>oi.apart ops oj&&aIs oj
     |none=>false)
   |none=>false)&&aFu ops (i::done) r
def chkQ (ops:Array Oper) (E:List (List Nat)) (Ps:List Nat):Bool:=
 aD2 ops&&((List.range ops.size).all λi=>(E.getD i []).all λk=>((edL ops).getD i []).contains k)&&decide (E.length=ops.size)&&Ps.all (λi=>decide (i<ops.size))&&aFu ops [] Ps
section
variable [I:Envs]
variable {P:Program}{nt:Nat}{Q:Exit->Act->World->Prop}
def vcO (P:Program) (K:St->Prop) (aops:List aM) (E:List (List Nat)):Nat->List Nat->St->Prop
 |0,_,σ=>K σ
 |m+1,T,σ=>OrK E T T (λi=>vc P (vcO P K aops E m (T.erase i)) [aops.getD i default] σ) .x
theorem aKh {C:Ctx}{K:St->Prop}{aops:List aM}{E:List (List Nat)} (G:∀a w,dV C K a w->Q .normal a w):∀(L T:List Nat) (σ:St) (a:Act) (w:World) (S:Nat->Prop) (ρ:Name->Option Nat) (κ:Name->Nat),okL E T L->vcO P K aops E T.length T σ->OK C σ.f a w S ρ κ->RgL P C.nt (L.map λi=>aops.getD i default) Q a w
 | [],T,σ,a,w,S,ρ,κ,h,hv,hok=>by
  obtain rfl:T=[]:=h;exact RgL.nil (G a w ⟨σ,S,ρ,κ,hv,hok⟩)
 | i::L,T,σ,a,w,S,ρ,κ,⟨h1,h2,h3⟩,hv,hok=>by
  obtain⟨m,H⟩:∃m,T.length=m+1:=⟨T.length-1,by have:=Dx h1;omega⟩;rw[H,vcO] at hv;have:=hv i h1 h2;refine RgL.fw (pre:=[aops.getD i default]) (fun σ' J w' S' ρ' κ' M F=>?_) σ a w S ρ κ this hok;refine aKh G L (T.erase i) σ' J w' S' ρ' κ' h3 ?_ F;rw[List.length_erase_of_mem h1,H];exact M
def pv (σ:St):AOp->Option AV
 |.mv x=>some (evO (look σ.s) x)
 | .nilc x=>match evO (look σ.s) x with
  |.ptr n e c=>if(aB σ.h n).isSome then some (.ptr n e c) else none
  |_=>none
 | .fieldAddr off x=>match evO (look σ.s) x with
  |.ptr n e c=>if(aB σ.h n).isSome then some (.ptr n e (c+off)) else none
  |_=>none
 |_=>none
def vcF (K:St->Prop):List aM->St->Prop
 | [],σ=>K σ
 | o::r,σ=>match o.guard,o.dst,pv σ o.op with
  |none,some d,some x=>vcF K r ⟨(d,x)::σ.s,σ.h⟩
  |_,_,_=>False
theorem aJu {C:Ctx}{a:Act}{w:World}{S:Nat->Prop}{ρ:Name->Option Nat}{κ:Name->Nat}{σ:St} (J:OK C σ.f a w S ρ κ) {ops:Array Oper}{o:Oper}{ao:aM} (hc:nZ P C.nt ops o=some ao.bare) (hg:o.guard=none) {x:AV} (G:pv σ ao.op=some x)
  (hm:(match o.op with|.move _=>true|.assign _=>true|.nilCheck _=>true|.fieldAddr _ _ _=>true|_=>false)=true):∃v,RV S w ρ κ σ.f.h x v∧Yields P ops o v a:=by
 obtain⟨H,h2,h3,h4⟩:=iQ hc;have hw:∀tm,Region.wanted o tm=true:=λtm=>by simp[Region.wanted,hg]
 obtain⟨hd,F,gd⟩:=ao;cases hop:o.op<;>rw[hop] at hm<;>(first|(exfalso;simp at hm;done)|skip)
 case move y =>
  rw[hop] at H
  have e:F=.mv y:=by
   simp only[comp,Ab] at H;cases F<;>simp_all [AOp.bare,AOp.bare0]
  subst e;simp only[pv,Ab] at G;subst G;exact⟨a.eval y,J.ev y,.inl ⟨hw _,λw=>by simp[execOp,hop]⟩⟩
 case assign y =>
  rw[hop] at H
  have e:F=.mv y:=by
   simp only[comp,Ab] at H;cases F<;>simp_all [AOp.bare,AOp.bare0]
  subst e;simp only[pv,Ab] at G;subst G;exact⟨a.eval y,J.ev y,.inl ⟨hw _,λw=>by simp[execOp,hop]⟩⟩
 case nilCheck y =>
  rw[hop] at H
  have e:F=.nilc y:=by
   simp only[comp,Ab] at H;cases F<;>simp_all [AOp.bare,AOp.bare0]
  subst e;have U:=J.ev y;simp only[pv] at G;split at G
  .rename_i n e c O;split at G
   .rename_i hs;obtain rfl:=Ay G;obtain⟨b,Y⟩:=AA.1 hs;rw[show evO σ.f.s y=_ from O] at U;obtain⟨z,hz,M⟩:=eH U b Y;refine⟨a.eval y,U,.inl ⟨hw _,λw=>?_⟩⟩;rw[M];simp[execOp,hop,M]
   .cases G
  .cases G
 case fieldAddr s y i =>
  rw[hop] at H;simp only[comp] at H;split at H
  .rename_i f Z;split at H
   .rename_i n0 hn;simp only[Ab] at H
    have V:∀w b o,(Instr.fieldAt s (.pointer (some ⟨b,o,none⟩)) i).run P w=.ok (.pointer (some ⟨b,o+f.offset,none⟩)) w:=by
     intro w b o;unfold xO at Z;split at Z
     .rename_i fs hu;simp[Instr.fieldAt,run_underlying hu,Z,Instr.sureAddr,fieldPlace,run_sizeOf hn,addr_add]
     .cases Z
    have e:F=.fieldAddr f.offset y∨F=.fieldV f.offset y:=by
     cases F<;>simp_all [AOp.bare,AOp.bare0]
    rcases e with rfl|rfl
    .have U:=J.ev y;simp only[pv] at G;split at G
     .rename_i n e c O;split at G
      .rename_i hs;obtain rfl:=Ay G;obtain⟨b,Y⟩:=AA.1 hs;rw[show evO σ.f.s y=_ from O] at U;obtain⟨z,hz,M⟩:=eH U b Y;refine⟨.pointer (some ⟨z,e*b.k+c+f.offset,none⟩),.ptr _ _ _ _ λb' ha=>?_,.inl ⟨hw _,λw=>?_⟩⟩
       .have:b=b':=Ay (Y.symm.trans ha);subst this;exact⟨z,hz,by rw[Cn]⟩
       .simp only[execOp,hop];rw[M];have:=V w z (e*b.k+c);simp only[Sem.run_bind,this,Result.andThen_ok,Sem.run_pure]
      .cases G
     .cases G
    .simp[pv] at G
   .cases H
  .cases H
theorem aEH {C:Ctx}{ops:Array Oper}{aops:List aM}{K:St->Prop} (hQ:∀c a w,¬Q (.panic c) a w) (Y:aD2 ops=true) (H:∀i,i<ops.size->∃o,ops[i]? = some o∧nZ P C.nt ops o=some (aops.getD i default).bare) {L0:List Nat} (hL:okL (edL ops) (List.range ops.size) L0) :
  ∀ (F done:List Nat) (σ:St) (a:Act) (w:World) (S:Nat->Prop) (ρ:Name->Option Nat) (κ:Name->Nat),(F.all λi=>decide (i<ops.size))=true->(∀i,i∈F->i∉done)->F.Nodup->aFu ops done F=true->vcF K (F.map λi=>aops.getD i default) σ->OK C σ.f a w S ρ κ->
   (∀(σ:St) (a:Act) (w:World) (S:Nat->Prop) (ρ:Name->Option Nat) (κ:Name->Nat),K σ->OK C σ.f a w S ρ κ->wpOps P ops Q (L0.filter λj=>!(F.reverse++done).contains j) a w)->
   wpOps P ops Q (L0.filter λj=>!done.contains j) a w
 | [],done,σ,a,w,S,ρ,κ,_,_,_,_,hv,hok,hfin=>by
  have:=hfin σ a w S ρ κ hv hok;simpa using this
 | p::F,done,σ,a,w,S,ρ,κ,hlt,hnd,hno,hf,hv,hok,hfin=>by
  simp only[BJ,Aw,Bb] at hlt;obtain⟨oi,ho,Z⟩:=H p hlt.1;simp only[aFu,ho,Aw,Az,Co] at hf;obtain⟨⟨⟨⟨hg,hs⟩,hp⟩,hl⟩,hn⟩:=hf;have hg:oi.guard=none:=by simpa using hg
  have hu:p∉done:=hnd p Dn;obtain⟨he,hc⟩:=aBM List.nodup_range hL;have ht:p∈L0:=(hc p).2 (Co.2 hlt.1);obtain⟨A,B,rfl⟩:=List.append_of_mem ht;have O:p∉A:=λh=>(List.nodup_append.1 he).2.2 p h p Dn rfl;have hq:p∉B:=(List.nodup_cons.1 (List.nodup_append.1 he).2.1).1
  have G:(A++p::B).filter (λj=>!done.contains j)=A.filter (λj=>!done.contains j)++p::B.filter (λj=>!done.contains j):=by
   rw[List.filter_append,List.filter_cons_of_pos (by simpa using hu)]
  have U:(A++p::B).filter (λj=>!(p::done).contains j)=A.filter (λj=>!done.contains j)++B.filter (λj=>!done.contains j):=by
   rw[List.filter_append,List.filter_cons_of_neg (by simp)];congr 1
   .refine List.filter_congr λx hx=>?_;have:x≠p:=λe=>O (e ▸ hx);simp[this]
   .refine List.filter_congr λx hx=>?_;have:x≠p:=λe=>hq (e ▸ hx);simp[this]
  rw[G];simp only[Bt,vcF] at hv;split at hv
  .rename_i d x h0 hd hw;obtain⟨v,hz,hy⟩:=aJu hok Z hg hw hp;obtain⟨c1,c2,c3,_⟩:=iQ Z;have J:oi.dst=some d:=c2.trans hd;refine aCb ho (aDv hs) hQ _ _ a w (λj hj=>?_) hy ?_
   .obtain⟨M,ha⟩:=Dm.1 hj;have hb:j<ops.size:=Co.1 ((hc j).1 (Cq _ M));have:=hl j hb;simp only[Ct,BO] at this;rcases this with((h|h)|h)|h
    .exact(O (h ▸ M)).elim
    .rw[h] at ha;simp at ha
    .exfalso;obtain⟨A1,A2,rfl⟩:=List.append_of_mem M;have V:=hL;rw[Bz,Ae] at V;have:=aI5 List.nodup_range (λj hj=>Co.2 hj) Y ops.size p j V h;exact O (Cq _ this)
    .split at h
     .rename_i oj hr;simp only[Aw] at h;exact⟨oj,hr,h.1,aDv h.2⟩
     .cases h
   .rw[←U,J]
    have hk:OK C (⟨(d,x)::σ.s,σ.h⟩:St).f (a.put (some d) v) w S ρ κ:=by
     have:=hok.put (d:=some d) hz (λd' hm=>by
       obtain rfl:=Ay hm;exact c3 _ J)
     have e:(⟨(d,x)::σ.s,σ.h⟩:St).f=⟨upd σ.f.s (some d) x,σ.f.h⟩:=by
      simp[St.f,look,upd,eq_comm]
     rw[e];exact this
    refine aEH hQ Y H hL F (p::done) _ _ w S ρ κ hlt.2 (λi hi=>?_) (List.nodup_cons.1 hno).2 hn hv hk (fun σ a w S ρ κ h1 h2=>?_)
    .intro h;rcases Am.1 h with rfl|h
     .exact(List.nodup_cons.1 hno).1 hi
     .exact hnd i (C8 _ hi) h
    .have:=hfin σ a w S ρ κ h1 h2;rw[show(p::F).reverse++done=F.reverse++(p::done) by simp] at this;exact this
  .exact hv.elim
def drQ (P:Program) (Z:List (List (List Nat)×List Nat)) (nt:Nat) (ops:Array Oper):Option (List Nat):=
 if Z.any λz=>ops.size==z.1.length&&chkQ ops z.1 z.2 then some [3000000] else(dF P nt ops).bind λfl=>if fl.contains 3000000 then none else some fl
theorem aOL (O:P.follows .mixedOrders=true) (Z:List (List (List Nat)×List Nat)):lX P (drQ P Z):=by
 intro C U ops aops V K Q σ a w S ρ κ F J h2;unfold drQ at F;split at F
 .obtain rfl:=Ay F;simp[aBX] at h2
 .obtain⟨G,M,H⟩:=A7.1 F;split at H
  .cases H
  .obtain rfl:=Ay H;exact rE O C U ops aops G K Q σ a w S ρ κ M J h2
theorem aD5.rgO {C:Ctx}{N:St->Prop}{X:kW->St->Prop}{σ:St} (hm:P.follows .mixedOrders=true) {Z:List (List (List Nat)×List Nat)}{E:List (List Nat)}{V:List Nat} (hZ:(Z.all λz=>!(z.1.length==E.length)||z==(E,V))=true) (h0:V.Nodup) {aops:List aM}{Y:List Nat} (hn:aops.length=E.length)
  {T0:List Nat} (h6:(List.range E.length).filter (λj=>!V.reverse.contains j)=T0) {n:Nat} (qd:T0.length=n) {U:List aM} (qg:(V.map λi=>aops.getD i default)=U) (h:vcF (vcO P (fun σ'=>N ⟨xS σ'.s Y,σ'.h⟩) aops E n T0) U σ):aD5 P C (drQ P Z) (.region aops Y [3000000]) N X σ:=by
 subst qd;subst h6;subst qg;intro c Q0 a w S ρ κ F hN _ _ qf;cases c
 case region id ops draw =>
  refine Code.wp_mono (Q:=λe a w=>Q0 e a w∧∀c,e≠.panic c) (λe a w h=>h.1) ?_;generalize ha:(λ(e:Exit) a w=>Q0 e a w∧∀c,e≠.panic c)=Q;have h5:∀c a w,¬Q (.panic c) a w:=λc a w hq=>by rw[←ha] at hq;exact hq.2 c rfl
  have h1:∀a w,dV C N a w->Q .normal a w:=λa w hg=>by rw[←ha];exact⟨hN a w hg,λc e=>by cases e⟩
  simp only[bN,aD.bare] at F;split at F
  .rename_i hw G;cases ho:aCC P C.nt ops ops.toList with
   |none=>rw[ho] at F;cases F
   | some l =>
    rw[ho] at F;simp only[AU,Ab,aD.region.injEq,Ck] at F;obtain⟨hl,h7⟩:=F;subst hl;subst h7;cases draw with
    |false=>simp at G
    | true =>
     have hd:drQ P Z C.nt ops=some [3000000]:=by simpa using G
     obtain⟨g1,g2⟩:=nX ho;have hr:ops.size=aops.length:=by simpa using g1
     have hp:chkQ ops E V=true:=by
      unfold drQ at hd;split at hd
      .rename_i he;obtain⟨z,hz,M⟩:=List.any_eq_true.1 he;simp only[Aw,BO] at M;have hb:=Az.1 hZ z hz;have qb:z.1.length=E.length:=by rw[←M.1,hr,hn]
       simp only[qb,beq_self_eq_true,BV,Di,BO] at hb;rw[hb] at M;exact M.2
      .obtain⟨hw,h3,h4⟩:=A7.1 hd;split at h4
       .cases h4
       .rename_i qe;obtain rfl:=Ay h4;simp at qe
     simp only[chkQ,Aw,Bb] at hp;obtain⟨⟨⟨⟨hf,hE⟩,hx⟩,hy⟩,h8⟩:=hp;refine wp_region_draw λt=>?_;rw[hm];have hs:=aHX ops t
     have hL:okL (edL ops) (List.range ops.size) (Region.schedule true ops t):=aIl hf ops.size _ _ _ (by simp) List.nodup_range (λj=>by
       simp only[Co];constructor
       . intro h
         exact⟨h,by simp only[Array.getD_eq_getD_getElem?,Array.getElem?_replicate];split<;>rfl⟩
       . exact λh=>h.1) (by simp) hs
     generalize Region.schedule true ops t=L0 at hL
     have O:∀i,i<ops.size->∃o,ops[i]? = some o∧nZ P C.nt ops o=some (aops.getD i default).bare:=λi hi=>by
      have h9:i<aops.length:=by omega
      obtain⟨o,q1,q2⟩:=g2 i (aops.getD i default) (by simp[h9]);exact⟨o,by simpa using q1,q2⟩
     have H:OK C σ.f a {w with drawn:=w.drawn+1} S ρ κ:=qf.ext (Ext.of_heap rfl rfl rfl);have hv:=aEH (Q:=Q) h5 hf O hL V [] σ a {w with drawn:=w.drawn+1} S ρ κ hy (λ_ _ h=>by cases h) h0 h8 h H (fun σ' a' w' S' ρ' κ' hk ht=>?_)
     .have e:L0.filter (λj=>!([]:List Nat).contains j)=L0:=List.filter_eq_self.2 λ_ _=>by simp
      rw[e] at hv;exact hv
     .have hu:okL E (List.range ops.size) L0:=aF5 (λi k hk=>by
        by_cases hi:i<ops.size
        . have:=Az.1 (Az.1 hE i (Co.2 hi)) k hk
          simpa using this
        . rw[A8,List.getElem?_eq_none (by omega)] at hk
          cases hk) hL
      have J:=aDr (λj=>!(V.reverse++[]).contains j) List.nodup_range hu;rw[Be] at J⊢;have qc:=(aBM List.nodup_range hL).2;rw[show ops.size=E.length from hx.symm] at J
      have qh:=aKh (Q:=Q) (C:=C) (K:=fun σ'=>N ⟨xS σ'.s Y,σ'.h⟩) (aops:=aops) (E:=E) (λa w hg=>h1 a w (by
        obtain⟨σ',S',ρ',κ',hK,H⟩:=hg;exact⟨_,S',ρ',κ',hK,H.less (aBR _ _) (λ_ _ h=>h)⟩)) _ _ σ' a' w' S' ρ' κ' J hk ht
      refine qh ops _ (by simp) λj ao hj=>?_;simp only[Cv,Cr] at hj;obtain⟨i,hi,rfl⟩:=hj;have qa:i∈L0:=(Dm.1 (BS hi)).1;obtain⟨o,q1,q2⟩:=O i (Co.1 ((qc i).1 qa));exact⟨i,o,hi,q1,q2⟩
  .cases F
 all_goals(simp only[bN,aD.bare] at F;first|(cases F;done)|(split at F<;>simp at F)|(simp at F))
theorem RgK.ord (Y:P.follows .mixedOrders=true) {C:Ctx}{N:St->Prop}{X:kW->St->Prop}{σ:St}{Z:List (List (List Nat)×List Nat)} (E:List (List Nat)) (H:List Nat) {aops:List aM}{G:List Nat}{b:Bool}{A:Prop}{t:Tag (b,A,aD5 P C (drQ P Z) (.region aops G [3000000]) N X σ)} (hn:aops.length=E.length) (V:(Z.all λz=>!(z.1.length==E.length)||z==(E,H))=true) (J:H.Nodup)
  {T0:List Nat} (M:(List.range E.length).filter (λj=>!H.reverse.contains j)=T0) {n:Nat} (O:T0.length=n) {F:List aM} (U:(H.map λi=>aops.getD i default)=F) (h:vcF (vcO P (fun σ'=>N ⟨xS σ'.s G,σ'.h⟩) aops E n T0) F σ):RgK b A (aD5 P C (drQ P Z) (.region aops G [3000000]) N X σ) t:=
 .inr (aD5.rgO Y V J hn M O U h)
def xQ (P:Program) (Z:List (List (List Nat)×List Nat)) (f:FuncId) (fn:Func) (ac:aD):Prop:=
 P.funcs[f]? = some fn∧(fn.body.bind (bN P fn.ntmps (drQ P Z)))=some ac.bare∧(fn.name != "runtime.NumGoroutine")=true
theorem xQ.fn {Z:List (List (List Nat)×List Nat)}{f:FuncId}{fn:Func}{ac:aD} (h:xQ P Z f fn ac) (hm:P.follows .mixedOrders=true) {hin:List Blk}{args:List AV}{r:AV}{F:List (Option Blk)} (nt:Nat) (rs:List ResultVar) (B:List Name) (hout:List Blk) (J:fn.ntmps=nt) (M:fn.results.toList=rs)
  (ho:F=hout.map some) (G:args.length<=nt) (H:nodupB B=true) (Y:∀j,j<hin.length->B[j]? = some (.b j))
  (hw:∀C:Ctx,wpc P C (drQ P Z) ac (sZ P rs B r hout) (λe σ=>match e with|.ret=>sZ P rs B r hout σ|.exit _=>False) ⟨ini 0 args,xZ 0 hin⟩) :
  Fn P f hin args r F:=by
 subst J;subst M;subst ho;obtain⟨U,h2,V⟩:=h;obtain⟨O,hb,hc⟩:=A7.1 h2;exact Fn.intro (aOL hm Z) B U hb (by simpa using V) hc G (qV H) Y λC _=>hw C
end
end
section
variable {P:Program}
variable [I:Envs]
theorem aD7 {b F:Blk}{n:Name} (h:Hn [some b] n=some F):n=.b 0∧F=b:=by
 match n,h with
 |.b 0,h=>exact⟨rfl,by simpa[Hn] using h.symm⟩
 |.b (j+1),h=>simp[Hn] at h
 |.t _ _,h=>simp[Hn] at h
theorem Fn.shutB {f:FuncId}{k:Nat}{rows:List (List AV)}{ys:List AV}{b M:Blk} (h:Fn P f [b] ys (.agg [.loc (.b 1) 0 rows.length]) [some M,some (.arr k rows false)]) (ha:∀r,r∈rows->rD r=true) (hb:∀n,M.has n=false) :
  Fn P f [b] ys (.agg [.sl k rows]) [some M]:=by
 refine⟨h.1,λS w ρ κ vs hf hc hn H=>(h.2 S w ρ κ vs hf hc hn H).mono ?_⟩;rintro e w' ⟨v,S',ρ',κ',rfl,hp,hr⟩;obtain⟨us,rfl,hk,hg⟩:=rW hr;have V:=hp.hok.blk (.b 1) (.arr k rows false) rfl;have hl:=iT (show RV S' w' ρ' κ' (Hn [some M,some (.arr k rows false)]) (.loc (.b 1) 0 rows.length) (us.getD 0 undef) from hg 0 (by simp))
 have ho:Own S' w' (ρ' (.b 1)) (κ' (.b 1)) k rows (us.getD 0 undef):=⟨λk' l' z' he=>by
   obtain⟨rfl,rfl,rfl⟩:k=k'∧rows=l'∧false=z':=by simpa using he
   exact hl k rows false rfl,V,ha⟩
 refine⟨_,λy=>S' y∨ρ' (.b 1)=some y,ρ',κ',rfl,⟨⟨λn O h2=>?_,λn m y h1 h2 h3 h4=>?_,λy F=>?_,hp.hok.env.mono (λ_ h=>.inl h) λ_ _=>rfl⟩,hp.size,hp.old,λy F=>.inl (hp.sub y F),λy F=>?_,λj x G hx=>?_,hp.out,λj O G h2=>?_⟩,.clo (.agg _ us hk λj G=>?_)⟩
 .obtain⟨rfl,rfl⟩:=aD7 h2;have U:=hp.hok.blk (.b 0) O rfl;refine U.mono (λ_ h=>.inl h) (λx hx J=>?_) (λ_ _=>rfl) (λ_ _=>rfl) rfl rfl (λm hm=>by rw[hb m] at hm;cases hm);rcases J with J|J
  .exact J
  .have:=hp.hok.inj (.b 0) (.b 1) x rfl rfl hx J;cases this
 .obtain⟨O,Y⟩:=AA.1 h1;obtain⟨b3,Z⟩:=AA.1 h2;rw[(aD7 Y).1,(aD7 Z).1]
 .rcases F with F|F
  .exact hp.hok.dom y F
  .exact hp.hok.lt (n:=.b 1) (by rfl) F
 .rcases F with F|F
  .exact hp.new y F
  .exact .inr (hp.mine 1 y (by rfl) F)
 .have:j=0:=by
   match j,G with
   |0,_=>rfl
   |j+1,G=>simp at G
  subst this;exact hp.mine 0 x (by rfl) hx
 .have hd:j=0:=by simp at G;omega
  subst hd;exact hp.keep 0 O G h2
 .obtain rfl:j=0:=by simpa using G
  exact(ho.mono (S':=λ_=>False) (λ_ _ h=>h) λ_ _=>rfl).rc.mono (λ_ h=>.inr h) λ_ _=>rfl
theorem aEP {f:FuncId}{fn:Func}{F:Code}{ac:aD}{dr:Nat->Array Oper->Option (List Nat)}{hin:List Blk}{S:Nat->Prop}{w:World}{ρ:Name->Option Nat}{κ:Name->Nat} (hf:P.funcs[f]? = some fn) (M:fn.body=some F) (hc:bN P fn.ntmps dr F=some ac.bare) (hz:zB fn.ntmps dr F=true) {args:List AV} (ha:args.length<=fn.ntmps)
  {vs:Array Value} (Y:HOK S w ρ κ (Hn (hin.map some))) (hd:vs.size=args.length) (J:∀j,j<args.length->RV S w ρ κ (Hn (hin.map some)) (args.getD j .junk) (vs.getD j undef)) {R:Ending->World->Prop}
  (h : ∀a,OK ⟨fn.ntmps,w,S,uQ ρ hin,λj=>ρ (.b j),λj=>κ (.b j),λj=>hin[j]?⟩ (⟨ini 0 args,xZ 0 hin⟩:St).f a w S ρ κ->
    At P fn.ntmps dr ac (λe V w'=>(e=.ret∨e=.normal)∧V.defers=[]∧∃v,(results fn V.tmps).run P w'=.ok v w'∧R (.returned v) w') a w):Calls P f vs w R:=by
 refine calls_of_wp hf M ?_
 have O:∀n,((Hn (hin.map some)) n).isSome->∃j,j<hin.length∧n=.b j:=by
  intro n U
  match n,U with
  | .b j,U =>
   refine⟨j,?_,rfl⟩;rcases Db j hin.length with h|h
   .exact h
   .simp[Hn,List.getD,List.getElem?_eq_none h] at U
  |.t _ _,U=>simp[Hn] at U
 refine Code.wp_mono (λe V w' hq=>?_) (h _ ?_ F hc hz)
 .obtain⟨rfl|rfl,H,v,h2,Z⟩:=hq
  .exact⟨H,v,h2,Z⟩
  .exact⟨H,v,h2,Z⟩
 .refine⟨?_,rfl,λt=>?_,by simp only[St.f,lS];exact Y,Au _,λ_ _ _=>rfl,λn x H h2=>?_,λ_ h=>h,λb M=>.inl M,⟨rfl,rfl⟩,λj b M=>?_⟩
  .simp only[Array.size_append,Array.size_replicate];omega
  .simp only[St.f,aDC,Nat.zero_le,Ck,Ca,Nat.sub_zero,lS];split
   .rename_i ht
    have e:(vs++Array.replicate (fn.ntmps-vs.size) undef).getD t undef=vs.getD t undef:=by
     have H:t<vs.size:=by omega
     simp[Cz,H]
    rw[e];exact J t ht
   .exact .junk _
  .simp only[St.f,lS] at H;obtain⟨j,hj,rfl⟩:=O n H;exact .inr ⟨j,hj,h2⟩
  .simp only[St.f,lS] at M;refine⟨rfl,rfl,b,?_,b.same_refl⟩;show hin[j]? = some b
   have G:(hin.map some).getD j none=some b:=M;cases hx:hin[j]? with
   |none=>rw[A8,Cv,hx] at G;cases G
   |some b2=>rw[A8,Cv,hx] at G;simpa using G
theorem OK.post {nt:Nat}{hin hout:List Blk}{S S':Nat->Prop}{w w':World}{ρ ρ':Name->Option Nat}{κ κ':Name->Nat}{σ:FSt}{a:Act} (F:OK ⟨nt,w,S,uQ ρ hin,λj=>ρ (.b j),λj=>κ (.b j),λj=>hin[j]?⟩ σ a w' S' ρ' κ')
  (hh:∀n b,Hn (hout.map some) n=some b->σ.h n=some b∧∀m,b.has m=false):Post S w ρ κ hin S' w' ρ' κ' (hout.map some):=by
 have M:∀n,(Hn (hout.map some) n).isSome->(σ.h n).isSome:=λn Z=>by
  obtain⟨b,G⟩:=AA.1 Z;rw[(hh n b G).1];rfl
 refine⟨⟨λn b G=>?_,λn m x H h2 V Y=>F.hok.inj n m x (M n H) (M m h2) V Y,F.hok.dom,F.hok.env⟩,F.size,F.old,F.S0,F.Snew,λj x H h2=>F.mine (.b j) x (M (.b j) H) h2,F.out,λj O hj J=>F.keep j O (hh (.b j) O J).1⟩;exact(F.hok.blk n b (hh n b G).1).mono (λ_ h=>h) (λ_ _ h=>h) (λ_ _=>rfl) (λ_ _=>rfl) rfl rfl λm U=>by rw[(hh n b G).2 m] at U;cases U
def mid (A:List Value) (x:AV) (B:List Value):List AV:=A.map AV.v++x::B.map AV.v
theorem aFk (A:List Value) (x:AV) (B:List Value):(mid A x B).length=A.length+(B.length+1):=by simp[mid]
theorem aMW (A:List Value) (x y:AV) (B:List Value):(mid A x B).set A.length y=mid A y B:=by
 unfold mid;rw[Cy _ _ (by simp)];simp
theorem aMY (A:List Value) (x:AV) (B:List Value):((mid A x B).drop A.length).take 1=[x]:=by
 unfold mid;rw[List.drop_append_of_le_length (by simp),List.drop_of_length_le (by simp)];simp
theorem aF7 (A:List Value) (x:AV) (B:List Value):(mid A x B).getD A.length .junk=x:=by
 unfold mid;simp
theorem aHr {f:AV->Option (AV×List Name)} (F:∀v,f (.v v)=some (.v v,[])):∀A:List Value,dG f (A.map AV.v)=some (A.map AV.v,[])
 | []=>rfl
 |a::A=>by rw[Bt,dG,F a,aHr F A];rfl
theorem aLh {f:AV->Option (AV×List Name)}{l H:List AV}{c G:List AV}{L F:List Name}:dG f l=some (c,L)->dG f H=some (G,F)->dG f (l++H)=some (c++G,L++F):=by
 induction l generalizing c L with
 | nil =>
  intro h h';simp only[dG,Ab,AL] at h;obtain⟨rfl,rfl⟩:=h;simpa using h'
 | cons x r ih =>
  intro h h';simp only[dG] at h;split at h
  .rename_i y L1 ys L2 J h2;simp only[Ab,AL] at h;obtain⟨rfl,rfl⟩:=h;rw[Ae,dG,J,ih h2 h'];simp
  .cases h
theorem aLc {h:Name->Option Blk}{n:Nat}{E:List Name}{c:Bool}{A B:List Value}{x:AV}:dG (conv h (n+1) E c) (mid A x B)=match conv h (n+1) E c x with
  |some (y,L)=>some (mid A y B,L)
  |none=>none:=by
 have F:∀v,conv h (n+1) E c (.v v)=some (.v v,[]):=λv=>by simp[conv]
 unfold mid;cases hx:conv h (n+1) E c x with
 | none =>
  have:∀A:List Value,dG (conv h (n+1) E c) (A.map AV.v++x::B.map AV.v)=none:=by
   intro A
   induction A with
   |nil=>simp[dG,hx]
   |cons a A ih=>rw[Bt,Ae,dG,F a,ih]
  exact this A
 | some p =>
  obtain⟨y,L⟩:=p;have G:=aHr F A;have h2:dG (conv h (n+1) E c) (x::B.map AV.v)=some (y::B.map AV.v,L++[]):=by rw[dG,hx,aHr F B]
  rw[aLh G h2];simp
theorem aLC (n:Name):∀A:List Value,mD n (A.map AV.v)=false
 | []=>rfl
 |a::A=>by rw[Bt,mD,aLC n A];rfl
theorem aMX (n:Name) (A:List Value) (x:AV) (B:List Value):mD n (mid A x B)=x.has n:=by
 unfold mid
 induction A with
 |nil=>simp[mD,aLC]
 |cons a A ih=>rw[Bt,Ae,mD,ih];rfl
theorem aNI (φ:Name->Option Name):∀A:List Value,rnL φ (A.map AV.v)=A.map AV.v
 | []=>rfl
 |a::A=>by rw[Bt,rnL,aNI φ A];rfl
theorem aOs (φ:Name->Option Name) (A:List Value) (x:AV) (B:List Value):rnL φ (mid A x B)=mid A (rn φ x) B:=by
 unfold mid
 induction A with
 |nil=>simp[rnL,aNI]
 |cons a A ih=>rw[Bt,Ae,rnL,ih];rfl
theorem aMV (A:List Value) (x:AV) (B:List Value):(mid A x B).flatMap bF=bF x:=by
 have h:∀A:List Value,(A.map AV.v).flatMap bF=[]:=λA=>by
  induction A with
  |nil=>rfl
  |cons a A ih=>rw[Bt,BF,ih];rfl
 unfold mid;rw[List.flatMap_append,h A,BF,h B];simp
theorem Fn.use {f:FuncId}{hin:List Blk}{args:List AV}{r:AV}{hout:List (Option Blk)} (h:Fn P f hin args r hout) (S:Nat->Prop) (w:World) (ρ:Name->Option Nat) (κ:Name->Nat) (vs:Array Value) (F:HOK S w ρ κ (Hn (hin.map some))) (h2:∀b,b∈hin->b.fz=false) (G:vs.size=args.length)
  (H:∀j,j<args.length->RV S w ρ κ (Hn (hin.map some)) (args.getD j .junk) (vs.getD j undef)):Calls P f vs w λe w'=>∃v S' ρ' κ',e=.returned v∧Post S w ρ κ hin S' w' ρ' κ' hout∧RV S' w' ρ' κ' (Hn hout) r v:=h.2 S w ρ κ vs F h2 G H
end
end Go.Vs
