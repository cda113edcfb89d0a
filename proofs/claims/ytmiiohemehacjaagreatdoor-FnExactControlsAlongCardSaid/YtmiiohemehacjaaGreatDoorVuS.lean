/- Regions of two sizes whose order is drawn, order by order. -/
import Derived.Test.YtmiiohemehacjaaGreatDoorVuD
import Derived.Below
import Derived.Deep.Upon
import Derived.Deep.Draws
import Derived.Lib.SliceRun
import Derived.Laws.AppendOwn
set_option linter.all false
set_option maxHeartbeats 8000000
namespace Go.Vs
section
section
variable [Envs]
variable {P:Program}{nt:Nat}{dr:Nat->Array Oper->Option (List Nat)}{Q:Exit->Act->World->Prop}{a:Act}{w:World}
def RgL (P:Program) (nt:Nat) (aops:List aJ) (Q:Exit->Act->World->Prop) (a:Act) (w:World):Prop:=
 ∀(ops:Array Oper) (L:List Nat),L.length=aops.length->(∀(j:Nat) (ao:aJ),aops[j]? = some ao->∃(i:Nat) (o:Oper),L[j]? = some i∧ops[i]? = some o∧nD P nt ops o=some ao.bare)->wpOps P ops Q L a w
theorem RgL.nil (h:Q .normal a w):RgL P nt [] Q a w:=by
 intro ops L F _;have:L=[]:=by simpa using F
 subst this;exact h
theorem RgL.fw {C:Ctx}{K:St->Prop}{post:List aJ} (hK:∀(σ:St) (a:Act) (w:World) (S:Nat->Prop) (ρ:Name->Option Nat) (κ:Name->Nat),K σ->OK C σ.f a w S ρ κ->RgL P C.nt post Q a w) :
  ∀(pre:List aJ) (σ:St) (a:Act) (w:World) (S:Nat->Prop) (ρ:Name->Option Nat) (κ:Name->Nat),vc P K pre σ->OK C σ.f a w S ρ κ->RgL P C.nt (pre++post) Q a w
 | [],σ,a,w,S,ρ,κ,H,F=>hK σ a w S ρ κ H F
 | ao::r,σ,a,w,S,ρ,κ,H,F=>by
  intro ops L hl hs;cases L with
  |nil=>simp at hl
  |cons i L =>
  obtain⟨i',o,hi,ho,hc⟩:=hs 0 ao (by simp);obtain rfl:i=i':=by simpa using hi
  obtain⟨h1,h2,h3,h4⟩:=iO hc;rw[wpOps_cons]
  have ih:∀(σ:St) (a:Act) (w:World) (S:Nat->Prop) (ρ:Name->Option Nat) (κ:Name->Nat),vc P K r σ->OK C σ.f a w S ρ κ->wpOps P ops Q L a w:=fun σ a w S ρ κ H F =>
   RgL.fw hK r σ a w S ρ κ H F ops L (by simpa using hl) (λj ha hj=>by
     obtain⟨i',o',U,Y,Z⟩:=hs (j+1) ha (by simpa using hj);exact⟨i',o',by simpa using U,Y,Z⟩)
  have go:bC P ao.dst σ (vc P K r) ao.op->o.wp P a w (wpOps P ops Q L) Q:=λhd =>
   Oper.wp_mono (λa' w' ⟨σ',S',ρ',κ',hK,hok'⟩=>ih σ' a' w' S' ρ' κ' hK hok') (vY (P:=P) h1 F h3 (by rw[h2];exact hd))
  unfold wpOp;rw[ho];simp only[vc] at H;rcases h4 with⟨U,Y⟩|⟨j,J,t,U,Y,Z⟩
  .rw[Y] at H;have:Region.wanted o (yielded ops a.tmps)=true:=by simp[Region.wanted,U]
   simp only[this,if_true];exact .inl (go H)
  .rw[Y] at H;simp only at H;split at H
   .rename_i b hb;have hw:=yG F U Z hb;simp only[hw];by_cases O:b=J
    .simp only[O,beq_self_eq_true,if_true];exact .inl (go ((kQ.1 H).1 O))
    .have:(b==J)=false:=by simpa using O
     simp only[this,Bool.false_eq_true,if_false];have hn:b = !J:=by cases b<;>cases J<;>simp_all
     refine ih _ _ _ S ρ κ ((kQ.1 H).2 hn) ?_;have:=F.put (x:=.v undef) (v:=undef) (.clo (.v _)) h3;rw[h2] at this⊢;simpa[St.f,jU,undef] using this
   .rename_i cs hb;have hw:=yF F U Z hb;simp only[hw,Bool.false_eq_true,if_false];refine ih _ _ _ S ρ κ H ?_;have:=F.put (x:=.v undef) (v:=undef) (.clo (.v _)) h3;rw[h2] at this⊢;simpa[St.f,jU,undef] using this
   .exact H.elim
theorem RgL.op {o:aJ}{r:List aJ} (hg:o.guard=none) (h:∀(op:Oper) (ops:Array Oper),nD P nt ops op=some o.bare->op.wp P a w (RgL P nt r Q) Q):RgL P nt (o::r) Q a w:=by
 intro ops L U Y;cases L with
 |nil=>simp at U
 |cons i L =>
 obtain⟨J,op,hi,ho,O⟩:=Y 0 o (by simp);obtain rfl:i=J:=by simpa using hi
 obtain⟨_,_,_,h4⟩:=iO O
 have H:op.guard=none:=by
  rcases h4 with⟨h,_⟩|⟨j,Z,t,_,h,_⟩
  .exact h
  .rw[hg] at h;cases h
 rw[wpOps_cons];unfold wpOp;rw[ho];have:Region.wanted op (yielded ops a.tmps)=true:=by simp[Region.wanted,H]
 simp only[this,if_true]
 exact .inl (Oper.wp_mono (λa' w' hr=>hr ops L (by simpa using U) λj F hj=>by
   obtain⟨J,o',g1,g2,g3⟩:=Y (j+1) F (by simpa using hj);exact⟨J,o',by simpa using g1,g2,g3⟩) (h op ops O))
theorem At.rg {F:List aJ}{out:List Nat} (h:RgL P nt F Q a w):At P nt dr (.region F out []) Q a w:=by
 intro c H Y;cases c
 case region id ops draw =>
  simp only[bE,aF.bare] at H;split at H
  .rename_i ha L;cases ho:aBR P nt ops ops.toList with
   |none=>rw[ho] at H;cases H
   | some l =>
    rw[ho] at H;simp only[Option.map_some,Option.some.injEq,aF.region.injEq,true_and] at H;obtain⟨hl,O⟩:=H;subst hl;subst O;cases draw with
    | true =>
     have hd:dr nt ops=some []:=by simpa using L
     simp[zB,hd] at Y
    | false =>
     obtain⟨g1,g2⟩:=mD ho;have J:ops.size=F.length:=by simpa using g1
     refine wp_region (h ops _ (by rw[List.length_range,J]) λj ao Z=>?_);obtain⟨o,q1,q2⟩:=g2 j ao Z
     have U:j<ops.size:=by
      rw[J];rcases Nat.lt_or_ge j F.length with h|h
      .exact h
      .simp[List.getElem?_eq_none h] at Z
     exact⟨j,o,by simp[U],by simpa using q1,q2⟩
  .cases H
 all_goals(simp only[bE,aF.bare] at H;first|(cases H;done)|(split at H<;>simp at H)|(simp at H))
end
variable {P:Program}{nt:Nat}{dr:Nat->Array Oper->Option (List Nat)}{Q:Exit->Act->World->Prop}{a:Act}{w:World}
variable {I:Envs}{C1:Ctx}{σ τ:St}{S:Nat->Prop}
theorem Pt.drew (h:Pt I C1 σ a w S):Pt I C1 σ a {w with drawn:=w.drawn+1} S:=by
 obtain⟨H,U,C,ρ,κ,Y,J,O,L,F⟩:=h;exact Pt.of_ok H U L (@OK.ext I C σ.f a w {w with drawn:=w.drawn+1} S ρ κ F (Ext.of_heap rfl rfl rfl))
theorem Past.drew:Past S w S {w with drawn:=w.drawn+1}:=⟨λ_ h=>h,λ_ _=>rfl,Nat.le_refl _⟩
theorem Pt.rg (hp:Pt I C1 σ a w S) (he:C1.nt=nt) {pre post:List aJ} (hτ:∀p,p∈τ.h->iD p.2∧p.2.fz=false) (hv:@vc I P (fun σ'=>LeL σ' τ) pre σ)
  (h:∀Y w' S',Past S w S' w'->Pt I C1 τ Y w' S'->RgL P nt post Q Y w'):RgL P nt (pre++post) Q a w:=by
 have hf:=hp;obtain⟨hM,hr,C,ρ,κ,hg,Z,hc,L,O⟩:=hp;have H:C.nt=nt:=L.nt.trans he
 have hd:∀b,S b->b<w.heap.size∧¬C.Mut b:=λb hb=>⟨hf.dom b hb,λhm=>by
   obtain⟨n,hn,hx⟩:=hc b hm;obtain⟨b',J⟩:=Option.isSome_iff_exists.1 hn;exact @OK.noS I _ _ _ _ _ _ _ O _ _ J (hr _ (iM J)).2 _ hx hb⟩
 subst H;refine @RgL.fw I P Q C (fun σ'=>LeL σ' τ) post (fun σ' Y w' S' ρ' κ' ha U=>?_) pre σ a w S ρ κ hv O;have F:=@OK.le I _ _ _ _ _ _ _ _ U ha;exact h Y w' S' (Pt.later hg Z hd F) (Pt.of_ok hM hτ L F)
theorem Pt.rgcall (hp:Pt I C1 σ a w S) (Z:C1.nt=nt) {f:FuncId}{ts:List Nat}{ys:List AV}{bor:List Nat}{d:Nat}{r:List aJ} (hb:jL P f) (hl:ts.length=ys.length) (L:∀i,i<ts.length->look σ.s (ts.getD i 0)=ys.getD i .junk) (U:∀i,i<ts.length->fO (ys.getD i .junk)=true)
  (h:∀vs:Array Value,vs.size=ys.length->(∀j,j<ys.length->RC S w (ys.getD j .junk) (vs.getD j undef))->Calls P f vs w λe w'=>∃u,e=.returned u∧RgL P nt r Q (a.put (some d) u) w') :
  RgL P nt (⟨some d,.call (.func f) (ts.map .tmp) bor,none⟩::r) Q a w:=by
 have O:∀i,i<ts.length->RC S w (ys.getD i .junk) (a.tmps.getD (ts.getD i 0) undef):=λi hi=>by
  have:=hp.val (t:=ts.getD i 0) (by rw[L i hi];exact U i hi);rw[L i hi] at this;exact this
 obtain⟨hM,hr,C,ρ,κ,he,hc,hd,Y,ha⟩:=hp;have F:C.nt=nt:=Y.nt.trans Z;refine RgL.op rfl λop ops H=>?_;refine @aBY I P C a w S ρ κ ops σ.f op _ f (ts.map .tmp) bor (by rw[F];exact H) rfl ha hb _ _ ?_;refine h _ (by simp[hl]) λj hj=>?_;have J:j<ts.length:=by omega
 have e2:((ts.map Operand.tmp).map a.eval).toArray.getD j undef=a.tmps.getD (ts.getD j 0) undef:=by
  simp[J,Act.eval]
 rw[e2];exact O j J
theorem fvN {α:Type}{P:α->Prop}:∀p,p∈([]:List α)->P p:=λp F=>by cases F
theorem fvC {α:Type}{P:α->Prop}{x:α}{l:List α} (h:P x) (t:∀p,p∈l->P p):∀p,p∈x::l->P p:=λp F=>by
 rcases List.mem_cons.1 F with rfl|F
 .exact h
 .exact t p F
theorem flE {α:Type}{c:α->List AV}{l:List α} (h:∀x,iV (c x)=true):∀r,r∈E c l->iV r=true:=λr F=>by
 obtain⟨x,_,rfl⟩:=List.mem_map.1 F;exact h x
theorem Pt.rgN (J:Pt I C1 σ a w S) (F:C1.nt=nt) (n:Nat) {ops:List aJ} (L:@vc I P (fun σ'=>LeL σ' τ) (ops.take n) σ)
  (h:∀H w' S',Past S w S' w'->Pt I C1 τ H w' S'->RgL P nt (ops.drop n) Q H w') (hτ:∀p,p∈τ.h->iD p.2∧p.2.fz=false:=by repeat first|exact fvN|refine fvC ⟨rfl,rfl⟩ ?_|refine fvC ⟨flE λ_=>rfl,rfl⟩ ?_):RgL P nt ops Q a w:=by
 have:=J.rg F (pre:=ops.take n) (post:=ops.drop n) hτ L h
 rwa [List.take_append_drop] at this
theorem Pt.goT {dr:Nat->Array Oper->Option (List Nat)} (Y:Pt I C1 σ a w S) (H:@iF I P dr) (J:C1.nt=nt) (n:Nat) (c:aF)
  (Z:∀C:Ctx,C.nt=nt->@aDp I P C dr n c (fun σ'=>LeL σ' τ∧True) (λ_ _=>False) σ)
  (O:∀F w' S',Past S w S' w'->Pt I C1 τ F w' S'->At P nt dr (lG n c) Q F w') (hτ:∀p,p∈τ.h->iD p.2∧p.2.fz=false:=by repeat first|exact fvN|refine fvC ⟨rfl,rfl⟩ ?_|refine fvC ⟨flE λ_=>rfl,rfl⟩ ?_):At P nt dr c Q a w:=
 Y.go H J n c (X:=True) (E:=λ_ _=>False) hτ Z (λi σ h=>h) (λC a w hl U=>by obtain⟨_,_,_,_,h,_⟩:=U;exact h.elim) λF w' S' L h2 _=>O F w' S' L h2
theorem Pt.rgc (U:Pt I C1 σ a w S) (L:C1.nt=nt) {f:FuncId}{ts:List Nat}{ys:List AV}{bor:List Nat}{d:Nat}{r:List aJ} (O:jL P f) (F:ts.map (look σ.s)=ys) (H:ys.all fO=true)
  (h:∀vs:Array Value,vs.size=ys.length->(∀j,j<ys.length->RC S w (ys.getD j .junk) (vs.getD j undef))->Calls P f vs w λe w'=>∃u,e=.returned u∧RgL P nt r Q (a.put (some d) u) w') :
  RgL P nt (⟨some d,.call (.func f) (ts.map .tmp) bor,none⟩::r) Q a w:=
 U.rgcall L (ts:=ts) O (by rw[←F,List.length_map]) (λi hi=>by rw[←F];simp[hi]) (λi hi=>by
   rw[List.all_eq_true] at H;have J:i<ys.length:=by rw[←F,List.length_map];exact hi
   rw[List.getD_eq_getElem?_getD,List.getElem?_eq_getElem J];exact H _ (List.getElem_mem J)) h
end
section
variable {P:Program}{nt:Nat}{Q:Exit->Act->World->Prop}{a:Act}{w:World}{S:Nat->Prop}
theorem Pt.calls [I:Envs] {dr:Nat->Array Oper->Option (List Nat)}{f:FuncId}{fn:Func}{F:Code}{ac:aF} (hf:P.funcs[f]? = some fn) (Z:fn.body=some F) (hc:bE P fn.ntmps dr F=some ac.bare) (hz:zB fn.ntmps dr F=true) {args:List AV} (J:args.length<=fn.ntmps)
  {vs:Array Value} (Y:∀b,S b->b<w.heap.size) (he:Env S w) (O:vs.size=args.length) (H:∀j,j<args.length->RC S w (args.getD j .junk) (vs.getD j undef)) {R:Ending->World->Prop}
  (h : ∀(C1:Ctx) (a:Act),C1.nt=fn.ntmps->C1.w0=w->C1.S0=S->Pt I C1 ⟨ini 0 args,[]⟩ a w S->
    At P fn.ntmps dr ac (λe U w'=>(e=.ret∨e=.normal)∧U.defers=[]∧∃v,(results fn U.tmps).run P w'=.ok v w'∧R (.returned v) w') a w):Calls P f vs w R:=
 yC hf Z hc hz J Y he O H (λ_=>False) λa L=>h _ a rfl rfl rfl (Pt.of_ok (λ_ h=>h) (λp hp=>by cases hp) (Later.refl _) L)
theorem Fn.knownR [Envs] {f:FuncId}{hin:List Blk}{ys ys':List AV}{r:AV}{F:List (Option Blk)} (h:Fn P f hin ys r F) (Y:ys'.length=ys.length)
  (U:∀j,j<ys.length->ys'.getD j .junk=ys.getD j .junk∨(fO (ys'.getD j .junk)=true∧∀S w v,Env S w->RC S w (ys'.getD j .junk) v->RC S w (ys.getD j .junk) v)):Fn P f hin ys' r F:=
 ⟨h.1,λS w ρ κ vs H J L Z=>h.2 S w ρ κ vs H J (by rw[L,Y]) λj O=>by
   have:=Z j (by omega);rcases U j O with e|⟨hc,hv⟩
   . rw[e] at this;exact this
   . exact .clo (hv S w _ H.env (RV.closed this hc))⟩
variable {I:Envs}{C1:Ctx}{σ τ:St}
theorem aLh.later {H J L:World}{ls:List (List (List AV))}{v:Value}{m:Mem} (Y:Dk J ls v m) (Z:∀b,m.D b->H.heap.size<=b) {S S':Nat->Prop} (O:∀b,m.D b->S b) (F:Past S J S' L):aLh H L ls v:=
 ⟨m,Y.same F.size λb U=>F.old b (O b U),Z⟩
theorem Pt.fin {dr:Nat->Array Oper->Option (List Nat)} (hp:Pt I C1 σ a w S) (J:@iF I P dr) (L:C1.nt=nt) {c:aF}{E:uC->St->Prop} (hv:∀C:Ctx,C.nt=nt->@wpc I P C dr c (λ_=>False) E σ) (Y:∀i σ,¬E (.exit i) σ)
  (Z:∀C a w,Later C1 C->@bV I C (E .ret) a w->Q .ret a w):At P nt dr c Q a w:=by
 obtain⟨hM,hr,C,ρ,κ,hc,ha,hb,U,O⟩:=hp;have F:C.nt=nt:=U.nt.trans L
 exact At.fw J O F (hv C F) (λa w H=>H.no.elim) (λi a w H=>by
   obtain⟨σ',_,_,_,h,_⟩:=H;exact(Y i σ' h).elim) (λa w H=>Z C a w U H)
theorem Past.grow {w':World}{D:Nat->Prop} (F:tF w w') (H:∀b,S b->b<w.heap.size):Past S w (λb=>S b∨D b) w':=⟨λ_ h=>.inl h,λb J=>F.old b (H b J),F.size⟩
theorem Past.mark {H K:Nat->Prop}{O w':World}{D:Nat->Prop} (h:Past H O S w) (F:∀b,S b->b<w.heap.size) (L:w.heap.size<=w'.heap.size) (hw:∀b,b<w.heap.size->¬D b->w'.heap[b]? = w.heap[b]?) (U:∀b,D b->¬H b) (Y:∀b,H b->K b):Past H O K w':=
 ⟨Y,λb J=>(hw b (F b (h.sub b J)) λZ=>U b Z J).trans (h.old b J),Nat.le_trans h.size L⟩
theorem Dk.past {ls:List (List (List AV))}{v:Value}{m:Mem}{S':Nat->Prop}{w':World} (L:Dk w ls v m) (H:∀b,m.D b->S b) (F:Past S w S' w'):Dk w' ls v m:=L.same F.size λb J=>F.old b (H b J)
theorem us2 {us:Array Value} (h:us.size=2) {v c:Value} (J:us.getD 0 undef=v) (L:us.getD 1 undef=c):us=#[v,c]:=by
 obtain⟨l⟩:=us
 match l,h with
 | [x,y],_ =>
  have F:x=v:=by simpa using J
  have H:y=c:=by simpa using L
  rw[F,H]
theorem us1 {us:Array Value} (h:us.size=1) {v:Value} (H:us.getD 0 undef=v):us=#[v]:=by
 obtain⟨l⟩:=us
 match l,h with
 | [x],_ =>
  have F:x=v:=by simpa using H
  rw[F]
theorem aBO {v u:Value} (h:RC S w (.v v) u):u=v:=by cases h;rfl
end
section
theorem At.closing {P:Program}{nt:Nat}{dr:Nat->Array Oper->Option (List Nat)}{n:Nat}{x:aF}{Q:Exit->Act->World->Prop}{a:Act}{w:World} (h:At P nt dr x Q a w):At P nt dr (.closing n x) Q a w:=h
section
variable [Envs]
variable {P:Program}{nt:Nat}{Q:Exit->Act->World->Prop}
end
section
variable [I:Envs]
variable {P:Program}{nt:Nat}{Q:Exit->Act->World->Prop}{a:Act}{w:World}
end
variable {P:Program}{I:Envs}{C1:Ctx}{σ τ:St}{S:Nat->Prop}{a:Act}{w:World}
theorem Pt.mv (h:Pt I C1 σ a w S) {d s:Nat} (Z:d<C1.nt):Pt I C1 ⟨(d,look σ.s s)::σ.s,σ.h⟩ (a.put (some d) (a.tmps.getD s undef)) w S:=by
 obtain⟨Y,hr,C,ρ,κ,O,H,L,U,F⟩:=h;refine⟨Y,hr,C,ρ,κ,O,H,L,U,?_⟩
 have:=@OK.put I C σ.f a w S ρ κ F (look σ.s s) (a.tmps.getD s undef) (@OK.slots I _ _ _ _ _ _ _ F s) (some d) (λd' J=>by
   obtain rfl:=Option.some.inj J;rw[U.nt];exact Z)
 have e:(⟨(d,look σ.s s)::σ.s,σ.h⟩:St).f=⟨upd σ.f.s (some d) (look σ.s s),σ.f.h⟩:=by
  simp[St.f,look,upd,eq_comm]
 rw[e];exact this
end
section

end
section
section
variable [Envs]
variable {P:Program}{nt:Nat}{Q:Exit->Act->World->Prop}
end
section
variable [I:Envs]
variable {P:Program}{nt:Nat}{Q:Exit->Act->World->Prop}{a:Act}{w:World}
end
variable {P:Program}{nt:Nat}{Q:Exit->Act->World->Prop}{a:Act}{w:World}
variable {I:Envs}{C1:Ctx}{σ:St}{S:Nat->Prop}
end
section
section
variable [Envs]
variable {P:Program}
theorem tF.alloc (w:World) (o:Obj):tF w (w.alloc o):=
 ⟨by show w.heap.size<=(w.heap.push o).size;simp,λb F=>by show(w.heap.push o)[b]? = _;simp[Array.getElem?_push,Nat.ne_of_lt F],rfl,rfl⟩
end
end
section
section
variable [Envs]
variable {P:Program}
open Go.RowKit
end
end
section
variable {P:Program}{I:Envs}{C1:Ctx}{σ τ:St}{a:Act}{w:World}{S:Nat->Prop}
theorem Pt.resX (h:Pt I C1 σ a w S) {fn:Func}{x:AV} (hr:uE P σ (λxs=>uZ xs=x) fn.results.toList) :
  a.defers=[]∧∃(u:Value) (ρ:Name->Option Nat) (κ:Name->Nat),(results fn a.tmps).run P w=.ok u w∧RV S w ρ κ σ.f.h x u∧
   (∀n k rows v,aB σ.h n=some (.arr k rows false)->(∀r,r∈rows->iV r=true)->RV S w ρ κ σ.f.h (.loc n 0 rows.length) v->Own (λ_=>False) w (ρ n) (κ n) k rows v)∧
   (∀n b,(aB σ.h n).isSome->ρ n=some b->C1.w0.heap.size<=b∧b<w.heap.size∧¬S b)∧(∀n m b,(aB σ.h n).isSome->(aB σ.h m).isSome->ρ n=some b->ρ m=some b->n=m):=by
 obtain⟨hM,Y,C,ρ,κ,hd,ha,hc,hl,F⟩:=h;refine⟨@OK.defers I _ _ _ _ _ _ _ F,?_⟩;obtain⟨y,u,hx,Z,O⟩:=tL (P:=P) F (fn:=fn) (K:=λy=>y=x) hr;subst hx;refine⟨u,ρ,κ,O,Z,λn k rows v hb U hv=>(@OK.own I C a w S ρ κ σ.f F n k rows hb U v hv).mono (λ_ _ h=>h) (λ_ _=>rfl),λn b L J=>⟨?_,F.hok.lt L J,λhS=>?_⟩,λn m b L hm h1 h2=>F.hok.inj n m b L hm h1 h2⟩
 .rcases(@OK.back I _ _ _ _ _ _ _ hl _ F).mine n b L J with h|h
  .exact h
  .exact(hM b h).elim
 .obtain⟨b',H⟩:=Option.isSome_iff_exists.1 L;exact @OK.noS I _ _ _ _ _ _ _ F _ _ H (Y _ (iM H)).2 _ J hS
end
section
variable {P:Program}
section
variable [Envs]
end
end
section
variable {P:Program}
section
variable [Envs]
theorem aJk {f:FuncId}{k:Nat}{rows:List (List AV)}{ys:List AV}{n:Nat} (h:Fn P f [] ys (.loc (.b 0) 0 n) [some (.arr k rows false)]) (L:n=rows.length) (O:∀r,r∈rows->iV r=true)
  {S:Nat->Prop}{w:World}{vs:Array Value} (Z:∀b,S b->b<w.heap.size) (he:Env S w) (Y:vs.size=ys.length) (J:∀j,j<ys.length->RC S w (ys.getD j .junk) (vs.getD j undef)) :
  Calls P f vs w λe w'=>∃v x c,e=.returned v∧tF w w'∧Own (λ_=>False) w' x c k rows v∧∀b,x=some b->w.heap.size<=b∧b<w'.heap.size:=by
 subst L
 have F:∀n,Hn (([]:List Blk).map some) n=none:=by
  intro n;cases n<;>simp[Hn]
 refine(h.2 S w (λ_=>none) (λ_=>0) vs ⟨λn b H=>(by rw[F] at H;cases H),λn m y L _ _ _=>(by rw[F] at L;cases L),Z,he⟩ (by simp) Y λj hj=>.clo (J j hj)).mono ?_;rintro e w' ⟨v,S',ρ',κ',rfl,hp,hr⟩;have H:=hp.hok.blk (.b 0) (.arr k rows false) rfl;have hl:=iL hr
 have ho:Own S' w' (ρ' (.b 0)) (κ' (.b 0)) k rows v:=⟨λk' l' z' U=>by
   obtain⟨rfl,rfl,rfl⟩:k=k'∧rows=l'∧false=z':=by simpa using U
   exact hl k rows false rfl,H,O⟩
 refine⟨v,ρ' (.b 0),κ' (.b 0),rfl,⟨hp.size,λb H=>hp.old b H aDP,hp.out⟩,ho.mono (λ_ _ h=>h) λ_ _=>rfl,λb H=>⟨?_,hp.hok.lt (n:=.b 0) (by rfl) H⟩⟩;rcases hp.mine 0 b (by rfl) H with h|h
 .exact h
 .exact absurd h aDP
theorem At.mark {nt:Nat}{dr:Nat->Array Oper->Option (List Nat)}{Q:Exit->Act->World->Prop}{C0 C:Ctx}{σ τ τ':St}{a:Act}{w:World}{S:Nat->Prop}{ρ:Name->Option Nat}{κ:Name->Nat}{D:Nat->Prop} (hn:OK C σ.f a w S ρ κ) (J:C.nt=nt) (hm:Later C0 C) (hh:Hid C D (.v undef) undef) (hM:∀b,D b->C0.Mut b)
  {pre post:List aJ}{f:FuncId}{ts:List Nat}{vs:List Value}{bor:List Nat}{d:Nat}{u:Value}{out:List Nat}{R:World->Prop} (L:jL P f) (hd:d<nt)
  (hv:vc P (fun σ'=>LeL σ' τ) pre σ) (hl:ts.length=vs.length) (ho:∀i,i<ts.length->look τ.s (ts.getD i 0)=.v (vs.getD i undef))
  (hc:∀(w:World) (S:Nat->Prop),(∀b,S b->b<w.heap.size)->Env S w->(∀b,D b->¬S b)->C.w0.heap.size<=w.heap.size->(∀b,D b->w.heap[b]? = C.w0.heap[b]?)->Calls P f vs.toArray w λe w'=>e=.returned u∧w.heap.size<=w'.heap.size∧(∀b,b<w.heap.size->¬D b->w'.heap[b]? = w.heap[b]?)∧(w'.os=w.os∧w'.output=w.output)∧R w')
  (hp:vc P (fun σ'=>LeL σ' τ') post ⟨(d,.v u)::τ.s,τ.h⟩)
  (hN:∀(a:Act) (w:World) (C':Ctx) (S:Nat->Prop) (ρ:Name->Option Nat) (κ:Name->Nat),OK C' τ'.f a w S ρ κ->C'.nt=nt->Later C0 C'->Hid C' D (.v undef) undef->R C'.w0->Q .normal a w) :
  At P nt dr (.region (pre++⟨some d,.call (.func f) (ts.map .tmp) bor,none⟩::post) out []) Q a w:=by
 refine At.region hn J rfl ?_;refine aBS (K:=fun σ'=>LeL σ' τ) (fun σ1 Z=>?_) _ _ hv;intro a w S2 ρ2 κ2 op ops hj U;have F:=hj.le Z;have H:=hh.same F
 have O:((ts.map Operand.tmp).map a.eval).toArray=vs.toArray:=by
  congr 1;refine List.ext_getElem (by simp[hl]) λi h1 h2=>?_;have hi:i<ts.length:=by simpa using h1
  have h3:=F.slots (ts.getD i 0);rw[show τ.f.s (ts.getD i 0)=_ from ho i hi] at h3;have h4:=bL h3;have e1:ts.getD i 0=ts[i]:=by simp[hi]
  have e2:vs.getD i undef=vs[i]:=by simp[h2]
  rw[e1,e2] at h4;simp only[List.getElem_map];exact h4
 refine aBY (by rw[J];exact U) rfl F L ?_;rw[O];refine(hc w S2 F.hok.dom F.hok.env (λb L=>H.2.2.1 b L) F.size H.1).mono ?_;rintro e w' ⟨rfl,q1,q2,q3,q4⟩;have ha:=OK.wrote hh F q1 q2 q3;have Y:=OK.wroteM hm (λb L=>.inr (hM b L)) F q1 q2 q3;have hk:Hid (C.anew w' S2 τ.f.h ρ2) D (.v undef) undef:=⟨.v _,λb L=>Nat.lt_of_lt_of_le (H.2.1 b L) q1,λb L=>⟨H.2.2.1 b L,λ⟨n,g1,g2⟩=>H.2.2.2 b L n g1 g2⟩⟩;have he:=ha.put1 (d:=d) (by show d<C.nt;rw[J];exact hd) u;refine⟨_,rfl,C.anew w' S2 τ.f.h ρ2,⟨(d,.v u)::τ.s,τ.h⟩,S2,ρ2,κ2,fun σ'=>LeL σ' τ',J,he,hp,λa w hg=>?_⟩;obtain⟨S5,ρ5,κ5,hf⟩:=hg.le;exact hN a w _ S5 ρ5 κ5 hf J Y hk q4
end
end
section
section
variable [Envs]
variable {P:Program}{nt:Nat}{Q:Exit->Act->World->Prop}
end
section
variable [I:Envs]
variable {P:Program}{nt:Nat}{Q:Exit->Act->World->Prop}{a:Act}{w:World}
end
end
section
variable {P:Program}{nt:Nat}{Q:Exit->Act->World->Prop}{a:Act}{w:World}
variable {I:Envs}{C1:Ctx}{σ τ:St}{S:Nat->Prop}
end
section
variable {P:Program}{nt:Nat}{Q:Exit->Act->World->Prop}{a:Act}{w:World}
variable {I:Envs}{C1:Ctx}{σ τ:St}{S:Nat->Prop}
variable {dr:Nat->Array Oper->Option (List Nat)}
end
section
variable {P:Program}{nt:Nat}{Q:Exit->Act->World->Prop}{a:Act}{w:World}
variable {I:Envs}{C1:Ctx}{σ τ:St}{S:Nat->Prop}
theorem OK.closeSome {C:Ctx}{ρ:Name->Option Nat}{κ:Name->Nat} (Z:Later C1 C) (hM:∀b,¬C1.Mut b) (F:@OK I C σ.f a w S ρ κ) (O:List (Name×Blk)) (H:∀p,p∈O->aB σ.h p.1=some p.2∧iD p.2∧p.2.fz=false) (l:List (Nat×AV))
  (hl:∀p,p∈l->(p.2=look σ.s p.1∧flat p.2=true)∨(fO p.2=true∧∃L,conv (aB σ.h) 8 [] false (look σ.s p.1)=some (p.2,L)∧∀n,n∈L->aB O n=none)) :
  ∃S',(∀b,S b->S' b)∧Pt (keepE S' w) C1 ⟨l,O⟩ a w S':=by
 let S':Nat->Prop:=λb=>S b∨∃n,(σ.f.h n).isSome∧aB O n=none∧ρ n=some b
 have hb:=@OK.back I _ _ _ _ _ _ _ Z _ F;have ha:∀n b,aB O n=some b->aB σ.h n=some b:=λn b h=>(H _ (oC _ _ _ h)).1;have hd:@OK I C (⟨σ.s,O⟩:St).f a w S ρ κ:=@OK.less I C a w S ρ κ σ.f (⟨σ.s,O⟩:St).f F (λt=>.inl rfl) (λn b h=>ha n b h)
 obtain ⟨h1,h2⟩:=@OK.jump I (keepE S' w) C1 C ⟨σ.s,O⟩ a w w S ρ κ Z hM hd (λ_=>False) (Nat.le_refl _) (λ_ _ _=>rfl) (λ_ h=>h.elim) ⟨rfl,rfl⟩ S' (λb J=>by
     rcases J with h|⟨n,h,_,e⟩
     . exact F.hok.dom b h
     . exact F.hok.lt h e) (λb h=>.inl (hb.S0 b h)) (λb J=>by
     rcases J with h|⟨n,h,_,e⟩
     . rcases hb.Snew b h with g|g|g
       . exact .inl g
       . exact .inr g
       . exact(hM b g).elim
     . rcases hb.mine n b h e with g|g
       . exact .inr g
       . exact(hM b g).elim) (λb J n hn hx=>by
     obtain⟨b',U⟩:=Option.isSome_iff_exists.1 hn;have Y:aB O n=some b':=U;have hs:=H _ (oC _ _ _ Y);rcases J with h|⟨m,h,g,e⟩
     . exact @OK.noS I _ _ _ _ _ _ _ F _ _ hs.1 hs.2.2 _ hx h
     . have:=F.hok.inj m n b h (by rw[show σ.f.h n=aB σ.h n from rfl,hs.1];rfl) e hx
       rw[this,Y] at g;cases g) aBd (λp hp=>(H p hp).2) l (λp hp=>by
     rcases hl p hp with h|⟨hc,L,hcv,hLn⟩
     . exact .inl h
     . right
       have hx:=F.slots p.1
       letI:=I
       have h3:=(oF F.hok (S':=λ_=>True) (λ_ _=>trivial) (E:=[]) (ρ':=ρ) (κ':=κ) (h':=σ.f.h) (λj n hj=>by simp at hj) 8 false _ _ _ _ hcv (λ_ _ _ _=>trivial) hx).2.2;have hs:=oF F.hok (S':=S') (λb h=>Or.inl h) (E:=[]) (ρ':=ρ) (κ':=κ) (h':=σ.f.h) (λj n hj=>by simp at hj) 8 false _ _ _ _ hcv (λn hn y hy=>Or.inr ⟨n,(h3 n hn).2,hLn n hn,hy⟩) hx;exact(hs.1 rfl).closed hc)
 exact⟨S',λb h=>.inl h,Pt.of_ok hM (λp hp=>(H p hp).2) h2 h1⟩
variable {dr:Nat->Array Oper->Option (List Nat)}
theorem Pt.goS (hp:Pt I C1 σ a w S) (hd:@iF I P dr) (hj:C1.nt=nt) (n:Nat) (c:aF) {E:uC->St->Prop} (hk:List (Name×Blk)) (ha:∀p,p∈hk->aB τ.h p.1=some p.2∧iD p.2∧p.2.fz=false) (l:List (Nat×AV))
  (hl:∀p,p∈l->(p.2=look τ.s p.1∧flat p.2=true)∨(fO p.2=true∧∃L,conv (aB τ.h) 8 [] false (look τ.s p.1)=some (p.2,L)∧∀n,n∈L->aB hk n=none))
  (hv:∀C:Ctx,C.nt=nt->@aDp I P C dr n c (fun σ'=>LeL σ' τ) E σ) (hE:∀i σ,¬E (.exit i) σ) (hR:∀C a w,Later C1 C->@bV I C (E .ret) a w->Q .ret a w)
  (hN:∀I' a' w' S',Past S w S' w'->Pt I' C1 ⟨l,hk⟩ a' w' S'->At P nt dr (lG n c) Q a' w'):At P nt dr c Q a w:=by
 have ho:=hp;obtain⟨hM,hr,C,ρ,κ,hq,hc,hf,J,Y⟩:=hp;have F:C.nt=nt:=J.nt.trans hj
 have hh:∀b,S b->b<w.heap.size∧¬C.Mut b:=λb hb=>⟨ho.dom b hb,λhm=>by
   obtain⟨n,hn,hx⟩:=hf b hm;obtain⟨b',O⟩:=Option.isSome_iff_exists.1 hn;exact @OK.noS I _ _ _ _ _ _ _ Y _ _ O (hr _ (iM O)).2 _ hx hb⟩
 refine @At.upto P nt dr Q I C hd F (fun σ'=>LeL σ' τ) E (λi a w U=>?_) (λa w U=>hR C a w J U) n c σ a w S ρ κ Y (hv C F) λa' w' U=>?_
 .obtain⟨σ',_,_,_,h,_⟩:=U;exact(hE i σ' h).elim
 .obtain⟨σ',S',ρ',κ',he,Z⟩:=U;have H:=@OK.le I _ _ _ _ _ _ _ _ Z he;obtain⟨S2,h1,h2⟩:=OK.closeSome J hM H hk ha l hl;exact hN _ a' w' S2 ((Pt.later hq hc hh H).trans ⟨h1,λ_ _=>rfl,Nat.le_refl _⟩) h2
end
section
section
variable [I:Envs]
variable {P:Program}{nt:Nat}{Q:Exit->Act->World->Prop}{a:Act}{w:World}
end
end
end Go.Vs
