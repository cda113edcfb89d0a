/- Structs of two rows in blocks of their own: they get names, and a walk ends with them. -/
import Derived.Test.YtkgeiaideklmoaaGreatVuD
import Derived.Below
import Derived.Deep.Upon
import Derived.Deep.Draws
import Derived.Lib.SliceRun
import Derived.Laws.AppendOwn
set_option linter.all false
set_option maxHeartbeats 8000000
namespace Go.Vs
section
section
variable [Envs]
variable {P:Program}{nt:Nat}{dr:Nat->Array Oper->Option (List Nat)}{Q:Exit->Act->World->Prop}{a:Act}{w:World}
def RgL (P:Program) (nt:Nat) (aops:List aI) (Q:Exit->Act->World->Prop) (a:Act) (w:World):Prop:=
 ∀(ops:Array Oper) (L:List Nat),L.length=aops.length->(∀(j:Nat) (ao:aI),aops[j]? = some ao->∃(i:Nat) (o:Oper),L[j]? = some i∧ops[i]? = some o∧nG P nt ops o=some ao.bare)->wpOps P ops Q L a w
theorem RgL.nil (h:Q .normal a w):RgL P nt [] Q a w:=by
 intro ops L F _;have:L=[]:=by simpa using F
 subst this;exact h
theorem RgL.fw {C:Ctx}{K:St->Prop}{post:List aI} (hK:∀(σ:St) (a:Act) (w:World) (S:Nat->Prop) (ρ:Name->Option Nat) (κ:Name->Nat),K σ->OK C σ.f a w S ρ κ->RgL P C.nt post Q a w) :
  ∀(pre:List aI) (σ:St) (a:Act) (w:World) (S:Nat->Prop) (ρ:Name->Option Nat) (κ:Name->Nat),vc P K pre σ->OK C σ.f a w S ρ κ->RgL P C.nt (pre++post) Q a w
 | [],σ,a,w,S,ρ,κ,H,F=>hK σ a w S ρ κ H F
 | ao::r,σ,a,w,S,ρ,κ,H,F=>by
  intro ops L hl hs;cases L with
  |nil=>simp at hl
  |cons i L =>
  obtain⟨i',o,hi,ho,hc⟩:=hs 0 ao (by simp);obtain rfl:i=i':=by simpa using hi
  obtain⟨h1,h2,h3,h4⟩:=iI hc;rw[wpOps_cons]
  have ih:∀(σ:St) (a:Act) (w:World) (S:Nat->Prop) (ρ:Name->Option Nat) (κ:Name->Nat),vc P K r σ->OK C σ.f a w S ρ κ->wpOps P ops Q L a w:=fun σ a w S ρ κ H F =>
   RgL.fw hK r σ a w S ρ κ H F ops L (by simpa using hl) (λj ha hj=>by
     obtain⟨i',o',U,Y,Z⟩:=hs (j+1) ha (by simpa using hj);exact⟨i',o',by simpa using U,Y,Z⟩)
  have go:bP P ao.dst σ (vc P K r) ao.op->o.wp P a w (wpOps P ops Q L) Q:=λhd =>
   Oper.wp_mono (λa' w' ⟨σ',S',ρ',κ',hK,hok'⟩=>ih σ' a' w' S' ρ' κ' hK hok') (wE (P:=P) h1 F h3 (by rw[h2];exact hd))
  unfold wpOp;rw[ho];simp only[vc] at H;rcases h4 with⟨U,Y⟩|⟨j,J,t,U,Y,Z⟩
  .rw[Y] at H;have:Region.wanted o (yielded ops a.tmps)=true:=by simp[Region.wanted,U]
   simp only[this,Bj];exact .inl (go H)
  .rw[Y] at H;simp only at H;split at H
   .rename_i b hb;have hw:=yO F U Z hb;simp only[hw];by_cases O:b=J
    .simp only[O,beq_self_eq_true,Bj];exact .inl (go ((lK.1 H).1 O))
    .have:(b==J)=false:=by simpa using O
     simp only[this,AR,Bd];have hn:b = !J:=by cases b<;>cases J<;>simp_all
     refine ih _ _ _ S ρ κ ((lK.1 H).2 hn) ?_;have:=F.put (x:=.v undef) (v:=undef) (.clo (.v _)) h3;rw[h2] at this⊢;simpa[St.f,kE,undef] using this
   .rename_i cs hb;have hw:=yN F U Z hb;simp only[hw,AR,Bd];refine ih _ _ _ S ρ κ H ?_;have:=F.put (x:=.v undef) (v:=undef) (.clo (.v _)) h3;rw[h2] at this⊢;simpa[St.f,kE,undef] using this
   .exact H.elim
theorem RgL.op {o:aI}{r:List aI} (hg:o.guard=none) (h:∀(op:Oper) (ops:Array Oper),nG P nt ops op=some o.bare->op.wp P a w (RgL P nt r Q) Q):RgL P nt (o::r) Q a w:=by
 intro ops L U Y;cases L with
 |nil=>simp at U
 |cons i L =>
 obtain⟨J,op,hi,ho,O⟩:=Y 0 o (by simp);obtain rfl:i=J:=by simpa using hi
 obtain⟨_,_,_,h4⟩:=iI O
 have H:op.guard=none:=by
  rcases h4 with⟨h,_⟩|⟨j,Z,t,_,h,_⟩
  .exact h
  .rw[hg] at h;cases h
 rw[wpOps_cons];unfold wpOp;rw[ho];have:Region.wanted op (yielded ops a.tmps)=true:=by simp[Region.wanted,H]
 simp only[this,Bj]
 exact .inl (Oper.wp_mono (λa' w' hr=>hr ops L (by simpa using U) λj F hj=>by
   obtain⟨J,o',g1,g2,g3⟩:=Y (j+1) F (by simpa using hj);exact⟨J,o',by simpa using g1,g2,g3⟩) (h op ops O))
theorem At.rg {F:List aI}{out:List Nat} (h:RgL P nt F Q a w):At P nt dr (.region F out []) Q a w:=by
 intro c H Y;cases c
 case region id ops draw =>
  simp only[bI,aD.bare] at H;split at H
  .rename_i ha L;cases ho:aA6 P nt ops ops.toList with
   |none=>rw[ho] at H;cases H
   | some l =>
    rw[ho] at H;simp only[AU,Ad,aD.region.injEq,Ci] at H;obtain⟨hl,O⟩:=H;subst hl;subst O;cases draw with
    | true =>
     have hd:dr nt ops=some []:=by simpa using L
     simp[zB,hd] at Y
    | false =>
     obtain⟨g1,g2⟩:=jQ ho;have J:ops.size=F.length:=by simpa using g1
     refine wp_region (h ops _ (by rw[List.length_range,J]) λj ao Z=>?_);obtain⟨o,q1,q2⟩:=g2 j ao Z
     have U:j<ops.size:=by
      rw[J];rcases Dc j F.length with h|h
      .exact h
      .simp[List.getElem?_eq_none h] at Z
     exact⟨j,o,by simp[U],by simpa using q1,q2⟩
  .cases H
 all_goals(simp only[bI,aD.bare] at H;first|(cases H;done)|(split at H<;>simp at H)|(simp at H))
def aFJ (ops:Array Oper):Nat->Array Bool->List (List Nat)
 |0,_=>[[]]
 | fuel+1,listed =>
  match(List.range ops.size).filter λi=>!listed.getD i true&&((ops[i]?).map (·.after.all λe=>!Region.binds .any e||listed.getD e.on false)).getD false with
  | []=>[[]]
  |rs=>rs.flatMap λi=>(aFJ ops fuel (listed.setIfInBounds i true)).map (i :: ·)
theorem aDY (ops:Array Oper):∀(fuel t:Nat) (F:Array Bool) (H:List Nat),∃L,L∈aFJ ops fuel F∧Region.linearise.go .any ops fuel t F H=H.reverse++L
 |0,t,F,H=>⟨[],by simp[aFJ],by simp[Region.linearise.go]⟩
 | fuel+1,t,F,H=>by
  simp only[Region.linearise.go,aFJ];generalize U:((List.range ops.size).filter λi=>!F.getD i true&&((ops[i]?).map (·.after.all λe=>!Region.binds .any e||F.getD e.on false)).getD false)=rs;cases rs with
  |nil=>exact⟨[],by simp,by simp⟩
  | cons x xs =>
   have J:t%(x::xs).length<(x::xs).length:=Nat.mod_lt _ (by simp);rw[Ba J];obtain⟨L,O,h2⟩:=aDY ops fuel (t/(x::xs).length) (F.setIfInBounds ((x::xs)[t%(x::xs).length]) true) ((x::xs)[t%(x::xs).length]::H);refine⟨(x::xs)[t%(x::xs).length]::L,?_,?_⟩
   .exact DC.2 ⟨_,Aa J,Bq.2 ⟨L,O,rfl⟩⟩
   .simp only[h2];simp
def wV (ops:Array Oper):List (List Nat):=aFJ ops ops.size (Array.replicate ops.size false)
theorem aDt (ops:Array Oper) (t:Nat):Region.schedule true ops t∈wV ops:=by
 obtain⟨L,F,h2⟩:=aDY ops ops.size t (Array.replicate ops.size false) []
 have e:Region.schedule true ops t=L:=by
  simp only[Region.schedule,Bool.true_or,Bj,Region.linearise];simpa using h2
 rw[e];exact F
def drO (P:Program) (n0:Nat) (OS:List (List Nat)) (nt:Nat) (ops:Array Oper):Option (List Nat):=
 if ops.size==n0&&!(wV ops==OS) then none else aW P nt ops
theorem aLo (L:P.follows .mixedOrders=true) (U:Nat) (J:List (List Nat)):fV P (drO P U J):=by
 intro C O ops F fl K Q σ a w S ρ κ H;refine bB L C O ops F fl K Q σ a w S ρ κ ?_;unfold drO at H;split at H
 .cases H
 .exact H
theorem At.rgs (hm:P.follows .mixedOrders=true) {n0:Nat}{U:List (List Nat)}{F:List aI}{out:List Nat}{f0:Nat}{fl:List Nat} (hn:F.length=n0) (hL:(U.all λL=>L.all λi=>decide (i<n0))=true)
  (h:∀L,L∈U->RgL P nt (L.map λi=>F.getD i default) Q a {w with drawn:=w.drawn+1}):At P nt (drO P n0 U) (.region F out (f0::fl)) Q a w:=by
 intro c H hh;cases c
 case region id ops draw =>
  simp only[bI,aD.bare] at H;split at H
  .rename_i hg J;cases ho:aA6 P nt ops ops.toList with
   |none=>rw[ho] at H;cases H
   | some l =>
    rw[ho] at H;simp only[AU,Ad,aD.region.injEq,Ci] at H;obtain⟨hl,he⟩:=H;subst hl;subst he;cases draw with
    |false=>simp at J
    | true =>
     have hd:drO P n0 U nt ops=some (f0::fl):=by simpa using J
     obtain⟨g1,g2⟩:=jQ ho;have Y:ops.size=F.length:=by simpa using g1
     have hb:wV ops=U:=by
      unfold drO at hd;split at hd
      .cases hd
      .rename_i ha;simp only[Y,hn,beq_self_eq_true,CX,BA,Bool.not_eq_false] at ha;simpa using ha
     refine wp_region_draw λt=>?_;rw[hm];have O:=aDt ops t;rw[hb] at O
     have Z:∀i,i∈Region.schedule true ops t->i<F.length:=λi hi=>by
      have:=Az.1 (Az.1 hL _ O) i hi;rw[hn];simpa using this
     refine h _ O ops _ (by simp) λj ao hj=>?_;generalize Region.schedule true ops t=L at Z hj;simp only[Cu,Cq] at hj;obtain⟨i,hi,rfl⟩:=hj;have hf:i<F.length:=Z i (BV hi);obtain⟨o,q1,q2⟩:=g2 i (F.getD i default) (by simp[hf]);exact⟨i,o,hi,by simpa using q1,q2⟩
  .cases H
 all_goals(simp only[bI,aD.bare] at H;first|(cases H;done)|(split at H<;>simp at H)|(simp at H))
end
variable {P:Program}{nt:Nat}{dr:Nat->Array Oper->Option (List Nat)}{Q:Exit->Act->World->Prop}{a:Act}{w:World}
variable {I:Envs}{C1:Ctx}{σ τ:St}{S:Nat->Prop}
theorem Pt.drew (h:Pt I C1 σ a w S):Pt I C1 σ a {w with drawn:=w.drawn+1} S:=by
 obtain⟨H,U,C,ρ,κ,Y,J,O,L,F⟩:=h;exact Pt.of_ok H U L (@OK.ext I C σ.f a w {w with drawn:=w.drawn+1} S ρ κ F (Ext.of_heap rfl rfl rfl))
theorem Past.drew:Past S w S {w with drawn:=w.drawn+1}:=⟨λ_ h=>h,λ_ _=>rfl,Ar _⟩
theorem Pt.rg (hp:Pt I C1 σ a w S) (he:C1.nt=nt) {pre post:List aI} (hτ:∀p,p∈τ.h->iV p.2∧p.2.fz=false) (hv:@vc I P (fun σ'=>LeL σ' τ) pre σ)
  (h:∀Y w' S',Past S w S' w'->Pt I C1 τ Y w' S'->RgL P nt post Q Y w'):RgL P nt (pre++post) Q a w:=by
 have hf:=hp;obtain⟨hM,hr,C,ρ,κ,hg,Z,hc,L,O⟩:=hp;have H:C.nt=nt:=L.nt.trans he
 have hd:∀b,S b->b<w.heap.size∧¬C.Mut b:=λb hb=>⟨hf.dom b hb,λhm=>by
   obtain⟨n,hn,hx⟩:=hc b hm;obtain⟨b',J⟩:=AA.1 hn;exact @OK.noS I _ _ _ _ _ _ _ O _ _ J (hr _ (dB J)).2 _ hx hb⟩
 subst H;refine @RgL.fw I P Q C (fun σ'=>LeL σ' τ) post (fun σ' Y w' S' ρ' κ' ha U=>?_) pre σ a w S ρ κ hv O;have F:=@OK.le I _ _ _ _ _ _ _ _ U ha;exact h Y w' S' (Pt.later hg Z hd F) (Pt.of_ok hM hτ L F)
theorem Pt.rgcall (hp:Pt I C1 σ a w S) (Z:C1.nt=nt) {f:FuncId}{ts:List Nat}{ys:List AV}{bor:List Nat}{d:Nat}{r:List aI} (hb:iO P f) (hl:ts.length=ys.length) (L:∀i,i<ts.length->look σ.s (ts.getD i 0)=ys.getD i .junk) (U:∀i,i<ts.length->dA (ys.getD i .junk)=true)
  (h:∀vs:Array Value,vs.size=ys.length->(∀j,j<ys.length->RC S w (ys.getD j .junk) (vs.getD j undef))->Calls P f vs w λe w'=>∃u,e=.returned u∧RgL P nt r Q (a.put (some d) u) w') :
  RgL P nt (⟨some d,.call (.func f) (ts.map .tmp) bor,none⟩::r) Q a w:=by
 have O:∀i,i<ts.length->RC S w (ys.getD i .junk) (a.tmps.getD (ts.getD i 0) undef):=λi hi=>by
  have:=hp.val (t:=ts.getD i 0) (by rw[L i hi];exact U i hi);rw[L i hi] at this;exact this
 obtain⟨hM,hr,C,ρ,κ,he,hc,hd,Y,ha⟩:=hp;have F:C.nt=nt:=Y.nt.trans Z;refine RgL.op rfl λop ops H=>?_;refine @aCd I P C a w S ρ κ ops σ.f op _ f (ts.map .tmp) bor (by rw[F];exact H) rfl ha hb _ _ ?_;refine h _ (by simp[hl]) λj hj=>?_;have J:j<ts.length:=by omega
 have e2:((ts.map Operand.tmp).map a.eval).toArray.getD j undef=a.tmps.getD (ts.getD j 0) undef:=by
  simp[J,Act.eval]
 rw[e2];exact O j J
theorem fvN {α:Type}{P:α->Prop}:∀p,p∈([]:List α)->P p:=λp F=>by cases F
theorem fvC {α:Type}{P:α->Prop}{x:α}{l:List α} (h:P x) (t:∀p,p∈l->P p):∀p,p∈x::l->P p:=λp F=>by
 rcases Ap.1 F with rfl|F
 .exact h
 .exact t p F
theorem flE {α:Type}{c:α->List AV}{l:List α} (h:∀x,fJ (c x)=true):∀r,r∈E c l->fJ r=true:=λr F=>by
 obtain⟨x,_,rfl⟩:=Bq.1 F;exact h x
theorem Pt.rgN (J:Pt I C1 σ a w S) (F:C1.nt=nt) (n:Nat) {ops:List aI} (L:@vc I P (fun σ'=>LeL σ' τ) (ops.take n) σ)
  (h:∀H w' S',Past S w S' w'->Pt I C1 τ H w' S'->RgL P nt (ops.drop n) Q H w') (hτ:∀p,p∈τ.h->iV p.2∧p.2.fz=false:=by repeat first|exact fvN|refine fvC ⟨rfl,rfl⟩ ?_|refine fvC ⟨flE λ_=>rfl,rfl⟩ ?_):RgL P nt ops Q a w:=by
 have:=J.rg F (pre:=ops.take n) (post:=ops.drop n) hτ L h
 rwa [BR] at this
theorem Pt.goT {dr:Nat->Array Oper->Option (List Nat)} (Y:Pt I C1 σ a w S) (H:@fV I P dr) (J:C1.nt=nt) (n:Nat) (c:aD)
  (Z:∀C:Ctx,C.nt=nt->@aDx I P C dr n c (fun σ'=>LeL σ' τ∧True) (λ_ _=>False) σ)
  (O:∀F w' S',Past S w S' w'->Pt I C1 τ F w' S'->At P nt dr (kU n c) Q F w') (hτ:∀p,p∈τ.h->iV p.2∧p.2.fz=false:=by repeat first|exact fvN|refine fvC ⟨rfl,rfl⟩ ?_|refine fvC ⟨flE λ_=>rfl,rfl⟩ ?_):At P nt dr c Q a w:=
 Y.go H J n c (X:=True) (E:=λ_ _=>False) hτ Z (λi σ h=>h) (λC a w hl U=>by obtain⟨_,_,_,_,h,_⟩:=U;exact h.elim) λF w' S' L h2 _=>O F w' S' L h2
theorem Pt.rgc (U:Pt I C1 σ a w S) (L:C1.nt=nt) {f:FuncId}{ts:List Nat}{ys:List AV}{bor:List Nat}{d:Nat}{r:List aI} (O:iO P f) (F:ts.map (look σ.s)=ys) (H:ys.all dA=true)
  (h:∀vs:Array Value,vs.size=ys.length->(∀j,j<ys.length->RC S w (ys.getD j .junk) (vs.getD j undef))->Calls P f vs w λe w'=>∃u,e=.returned u∧RgL P nt r Q (a.put (some d) u) w') :
  RgL P nt (⟨some d,.call (.func f) (ts.map .tmp) bor,none⟩::r) Q a w:=
 U.rgcall L (ts:=ts) O (by rw[←F,Bg]) (λi hi=>by rw[←F];simp[hi]) (λi hi=>by
   rw[Az] at H;have J:i<ys.length:=by rw[←F,Bg];exact hi
   rw[A8,Ba J];exact H _ (Aa J)) h
end
section
variable {P:Program}{nt:Nat}{Q:Exit->Act->World->Prop}{a:Act}{w:World}{S:Nat->Prop}
theorem Pt.calls [I:Envs] {dr:Nat->Array Oper->Option (List Nat)}{f:FuncId}{fn:Func}{F:Code}{ac:aD} (hf:P.funcs[f]? = some fn) (Z:fn.body=some F) (hc:bI P fn.ntmps dr F=some ac.bare) (hz:zB fn.ntmps dr F=true) {args:List AV} (J:args.length<=fn.ntmps)
  {vs:Array Value} (Y:∀b,S b->b<w.heap.size) (he:Env S w) (O:vs.size=args.length) (H:∀j,j<args.length->RC S w (args.getD j .junk) (vs.getD j undef)) {R:Ending->World->Prop}
  (h : ∀(C1:Ctx) (a:Act),C1.nt=fn.ntmps->C1.w0=w->C1.S0=S->Pt I C1 ⟨ini 0 args,[]⟩ a w S->
    At P fn.ntmps dr ac (λe U w'=>(e=.ret∨e=.normal)∧U.defers=[]∧∃v,(results fn U.tmps).run P w'=.ok v w'∧R (.returned v) w') a w):Calls P f vs w R:=
 vV hf Z hc hz J Y he O H (λ_=>False) λa L=>h _ a rfl rfl rfl (Pt.of_ok (λ_ h=>h) (λp hp=>by cases hp) (Later.refl _) L)
theorem OK.exposeP [Envs] {C:Ctx}{ρ:Name->Option Nat}{κ:Name->Nat}{σ:FSt} (hc:OK C σ a w S ρ κ) {n:Name}{k len:Nat}{rows:List (List AV)}{z:Bool} (hb:σ.h n=some (.arr k rows z)) (Y:∀r,r∈rows->fJ r=true) {v:Value} (hv:RV S w ρ κ σ.h (.loc n 0 len) v) :
  RC (λb=>ρ n=some b) w (.sl k (rows.take len)) v:=by
 have hl:=iN hv k rows z hb;obtain⟨h0,base,cap,rfl,h1,h2,h3,_⟩:=hl;have J:(rows.take len).length=len:=by rw[BM];omega
 obtain⟨hd,H⟩:=hc.hok.blk n _ hb;have e:∀i,i<len->(rows.take len).getD i []=rows.getD i []:=λi hi=>by simp[hi]
 have O:RC (λb=>ρ n=some b) w (.sl k (rows.take len)) (.slice base (rows.take len).length cap):=by
  rcases H with⟨hn,L⟩|⟨x,cs,T,fr,g1,g2,g3,_,_,g5,g6,g7⟩
  .subst L;have:List.take len ([]:List (List AV))=[]:=by simp
   rw[this];refine .sl k [] base cap 0 0 (λ_=>undef) (by simp) (by simp) (by simp) (by simp) (by simp) ⟨by simp,h2⟩
  .refine .sl k _ base cap x 0 (λi=>cs.getD i undef) (λha=>?_) (λi j hi U=>?_) (λi j hi U=>(g7 i j (by omega) U).1) (λi j hi U=>?_) (λi hi=>?_) ⟨by omega,h2⟩
   .have:0<len:=by have:=Ca.2 ha;omega
    obtain⟨y,hy,F⟩:=h3 this;rw[g1] at hy;obtain rfl:=Ay hy;exact⟨by rw[F];simp,g1⟩
   .have Z:i*k+j<cs.size:=by
     have:i*k+k<=rows.length*k:=by rw[←Ch];exact Bo k (by omega)
     omega
    simp[World.cell?,g2,Z]
   .rw[e i (by omega)];refine((g7 i j (by omega) U).2).flat ?_
    have hm:rows.getD i []∈rows:=by
     rw[A8,Ba (by omega)];exact Aa _
    exact bU (Y _ hm)
   .rw[e i (by omega)];exact hd i (by omega)
 rw[J] at O;exact O
theorem Fn.knownR [Envs] {f:FuncId}{hin:List Blk}{ys ys':List AV}{r:AV}{F:List (Option Blk)} (h:Fn P f hin ys r F) (Y:ys'.length=ys.length)
  (U:∀j,j<ys.length->ys'.getD j .junk=ys.getD j .junk∨(dA (ys'.getD j .junk)=true∧∀S w v,Env S w->RC S w (ys'.getD j .junk) v->RC S w (ys.getD j .junk) v)):Fn P f hin ys' r F:=
 ⟨h.1,λS w ρ κ vs H J L Z=>h.2 S w ρ κ vs H J (by rw[L,Y]) λj O=>by
   have:=Z j (by omega);rcases U j O with e|⟨hc,hv⟩
   . rw[e] at this;exact this
   . exact .clo (hv S w _ H.env (RV.closed this hc))⟩
theorem Fn.resAs [Envs] {f:FuncId}{hin:List Blk}{ys:List AV}{r O:AV}{F:List (Option Blk)} (h:Fn P f hin ys r F) (hc:dA r=true) (hr:∀S w v,RC S w r v->RC S w O v):Fn P f hin ys O F:=
 ⟨h.1,λS w ρ κ vs J H L ha=>(h.2 S w ρ κ vs J H L ha).mono λe w' he=>by
   obtain⟨U,S',ρ',κ',Y,h2,Z⟩:=he;exact⟨U,S',ρ',κ',Y,h2,.clo (hr S' w' U (RV.closed Z hc))⟩⟩
variable {I:Envs}{C1:Ctx}{σ τ:St}
theorem Pt.resRow (h:Pt I C1 σ a w S) {fn:Func}{n:Name}{k len:Nat}{rows:List (List AV)}{c:Value} (O:aA σ.h n=some (.arr k rows false)) (Y:∀r,r∈rows->fJ r=true)
  (J:dQ P σ (λxs=>dU xs=.tup [.loc n 0 len,.v c]) fn.results.toList) :
  a.defers=[]∧∃v x,(results fn a.tmps).run P w=.ok (.tuple #[v,c]) w∧RC (λb=>x=some b) w (.sl k (rows.take len)) v∧∀b,x=some b->C1.w0.heap.size<=b∧b<w.heap.size∧¬S b:=by
 obtain⟨hM,he,C,ρ,κ,hf,hc,hd,U,F⟩:=h;refine⟨@OK.defers I _ _ _ _ _ _ _ F,?_⟩;obtain⟨y,u,hx,Z,L⟩:=mE (P:=P) F (fn:=fn) (K:=λy=>y=.tup [.loc n 0 len,.v c]) J;subst hx
 obtain ⟨v,rfl,hv⟩:∃v,u=.tuple #[v,c]∧RV S w ρ κ σ.f.h (.loc n 0 len) v:=by
  have ha:∃vs:Array Value,u=.tuple vs∧vs.size=2∧RV S w ρ κ σ.f.h (.loc n 0 len) (vs.getD 0 undef)∧vs.getD 1 undef=c:=by
   cases Z with
   | clo h=>cases h with
    |tup _ vs U J=>have:=J 0 (by simp);cases this
   |tup _ vs U J=>exact⟨vs,rfl,by simpa using U.symm,by simpa using J 0 (by simp),bE (by simpa using J 1 (by simp))⟩
  obtain⟨vs,rfl,h2,h3,h4⟩:=ha;obtain⟨l⟩:=vs
  match l,h2 with
  | [x,y],_ =>
   refine⟨x,?_,by simpa using h3⟩;have:y=c:=by simpa using h4
   rw[this]
 refine⟨v,ρ n,L,@OK.exposeP a w S I C ρ κ σ.f F n k len rows false O Y v hv,λb H=>⟨?_,F.hok.lt (n:=n) (by rw[show σ.f.h n=_ from O];rfl) H,?_⟩⟩
 .rcases(@OK.back I _ _ _ _ _ _ _ U _ F).mine n b (by rw[show σ.f.h n=_ from O];rfl) H with h|h
  .exact h
  .exact(hM b h).elim
 .exact @OK.noS I _ _ _ _ _ _ _ F _ _ O rfl _ H
theorem aMe {v c u:Value} (h:RC S w (.tup [.v v,.v c]) u):u=.tuple #[v,c]:=by
 letI:Envs:=⟨[]⟩
 have F:∃vs:Array Value,u=.tuple vs∧vs.size=2∧vs.getD 0 undef=v∧vs.getD 1 undef=c:=by
  cases h with
  |tup _ vs hl hr=>exact⟨vs,rfl,by simpa using hl.symm,bE (ρ:=λ_=>none) (κ:=λ_=>0) (h:=λ_=>none) (.clo (by simpa using hr 0 (by simp))),bE (ρ:=λ_=>none) (κ:=λ_=>0) (h:=λ_=>none) (.clo (by simpa using hr 1 (by simp)))⟩
 obtain⟨vs,rfl,h2,L,O⟩:=F;obtain⟨l⟩:=vs
 match l,h2 with
 | [x,y],_ =>
  have H:x=v:=by simpa using L
  have J:y=c:=by simpa using O
  rw[H,J]
theorem aAt (v c:Value):RC S w (.tup [.v v,.v c]) (.tuple #[v,c]):=
 .tup _ _ rfl λj F=>by
  match j,F with
  |0,_=>exact .v _
  |1,_=>exact .v _
def aBd (w:World) (ls:List (List (List AV))) (e:Ending) (w':World):Prop:=∃v,e=.returned (.tuple #[v,.int .i64 0])∧kY w w'∧aBb w w' ls v
theorem aBb.later {H J L:World}{ls:List (List (List AV))}{v:Value}{m:Mem} (Y:Dk J ls v m) (Z:∀b,m.D b->H.heap.size<=b) {S S':Nat->Prop} (O:∀b,m.D b->S b) (F:Past S J S' L):aBb H L ls v:=
 ⟨m,Y.same F.size λb U=>F.old b (O b U),Z⟩
theorem Pt.retDk (h:Pt I C1 σ a w S) {fn:Func}{v:Value}{F J:World}{H:Nat->Prop}{ls:List (List (List AV))}{m:Mem} (hw:C1.w0=F) (Y:Dk J ls v m) (Z:∀b,m.D b->F.heap.size<=b) (U:∀b,m.D b->H b) (hp:Past H J S w)
  (hr:dQ P σ (λxs=>dU xs=.tup [.v v,.v (.int .i64 0)]) fn.results.toList):a.defers=[]∧∃u,(results fn a.tmps).run P w=.ok u w∧aBd F ls (.returned u) w:=by
 obtain⟨L,u,h2,O⟩:=h.res (fn:=fn) (x:=.tup [.v v,.v (.int .i64 0)]) rfl hr;have:=aMe O;subst this;exact⟨L,_,h2,v,rfl,hw ▸ h.out,aBb.later Y Z U hp⟩
theorem Pt.fin {dr:Nat->Array Oper->Option (List Nat)} (hp:Pt I C1 σ a w S) (J:@fV I P dr) (L:C1.nt=nt) {c:aD}{E:rD->St->Prop} (hv:∀C:Ctx,C.nt=nt->@wpc I P C dr c (λ_=>False) E σ) (Y:∀i σ,¬E (.exit i) σ)
  (Z:∀C a w,Later C1 C->@cK I C (E .ret) a w->Q .ret a w):At P nt dr c Q a w:=by
 obtain⟨hM,hr,C,ρ,κ,hc,ha,hb,U,O⟩:=hp;have F:C.nt=nt:=U.nt.trans L
 exact At.fw J O F (hv C F) (λa w H=>H.no.elim) (λi a w H=>by
   obtain⟨σ',_,_,_,h,_⟩:=H;exact(Y i σ' h).elim) (λa w H=>Z C a w U H)
theorem Past.grow {w':World}{D:Nat->Prop} (F:kY w w') (H:∀b,S b->b<w.heap.size):Past S w (λb=>S b∨D b) w':=⟨λ_ h=>.inl h,λb J=>F.old b (H b J),F.size⟩
theorem Past.mark {H K:Nat->Prop}{O w':World}{D:Nat->Prop} (h:Past H O S w) (F:∀b,S b->b<w.heap.size) (L:w.heap.size<=w'.heap.size) (hw:∀b,b<w.heap.size->¬D b->w'.heap[b]? = w.heap[b]?) (U:∀b,D b->¬H b) (Y:∀b,H b->K b):Past H O K w':=
 ⟨Y,λb J=>(hw b (F b (h.sub b J)) λZ=>U b Z J).trans (h.old b J),Bl h.size L⟩
theorem Dk.past {ls:List (List (List AV))}{v:Value}{m:Mem}{S':Nat->Prop}{w':World} (L:Dk w ls v m) (H:∀b,m.D b->S b) (F:Past S w S' w'):Dk w' ls v m:=L.same F.size λb J=>F.old b (H b J)
theorem us2 {us:Array Value} (h:us.size=2) {v c:Value} (h0:us.getD 0 undef=v) (J:us.getD 1 undef=c):us=#[v,c]:=by
 obtain⟨l⟩:=us
 match l,h with
 | [x,y],_ =>
  have F:x=v:=by simpa using h0
  have H:y=c:=by simpa using J
  rw[F,H]
theorem us1 {us:Array Value} (h:us.size=1) {v:Value} (h0:us.getD 0 undef=v):us=#[v]:=by
 obtain⟨l⟩:=us
 match l,h with
 | [x],_ =>
  have F:x=v:=by simpa using h0
  rw[F]
theorem aCI {v u:Value} (h:RC S w (.v v) u):u=v:=by cases h;rfl
theorem Fn.calls0 [Envs] {f:FuncId}{ys:List AV}{r:AV} (h:Fn P f [] ys r []) (Z:dA r=true) {vs:Array Value} (Y:∀b,S b->b<w.heap.size) (he:Env S w) (O:vs.size=ys.length) (H:∀j,j<ys.length->RC S w (ys.getD j .junk) (vs.getD j undef)) :
  Calls P f vs w λe w'=>∃v S',e=.returned v∧kY w w'∧RC S' w' r v:=by
 have F:∀n,Hn (([]:List Blk).map some) n=none:=by
  intro n;cases n<;>simp[Hn]
 have J:HOK S w (λ_=>none) (λ_=>0) (Hn (([]:List Blk).map some)):=
  ⟨λn b L=>(by rw[F] at L;cases L),λn m y U _ _ _=>(by rw[F] at U;cases U),Y,he⟩
 refine(h.2 S w _ _ vs J (by simp) O λj hj=>.clo (H j hj)).mono ?_;rintro e w' ⟨u,S',ρ',κ',rfl,hp,hu⟩;exact⟨u,S',rfl,⟨hp.size,λb L=>hp.old b L aBq,hp.out⟩,RV.closed hu Z⟩
end
section
theorem At.closing {P:Program}{nt:Nat}{dr:Nat->Array Oper->Option (List Nat)}{n:Nat}{x:aD}{Q:Exit->Act->World->Prop}{a:Act}{w:World} (h:At P nt dr x Q a w):At P nt dr (.closing n x) Q a w:=h
section
variable [Envs]
variable {P:Program}{nt:Nat}{Q:Exit->Act->World->Prop}
end
section
variable [I:Envs]
variable {P:Program}{nt:Nat}{Q:Exit->Act->World->Prop}{a:Act}{w:World}
theorem aBQ {a:Act}{d t:Nat}{v:Value} (h:d≠t):(a.put (some d) v).tmps.getD t undef=a.tmps.getD t undef:=by
 simp[Act.put,CL h]
end
variable {P:Program}{I:Envs}{C1:Ctx}{σ τ:St}{S:Nat->Prop}{a:Act}{w:World}
theorem Pt.mv (h:Pt I C1 σ a w S) {d s:Nat} (Z:d<C1.nt):Pt I C1 ⟨(d,look σ.s s)::σ.s,σ.h⟩ (a.put (some d) (a.tmps.getD s undef)) w S:=by
 obtain⟨Y,hr,C,ρ,κ,O,H,L,U,F⟩:=h;refine⟨Y,hr,C,ρ,κ,O,H,L,U,?_⟩
 have:=@OK.put I C σ.f a w S ρ κ F (look σ.s s) (a.tmps.getD s undef) (@OK.slots I _ _ _ _ _ _ _ F s) (some d) (λd' J=>by
   obtain rfl:=Ay J;rw[U.nt];exact Z)
 have e:(⟨(d,look σ.s s)::σ.s,σ.h⟩:St).f=⟨upd σ.f.s (some d) (look σ.s s),σ.f.h⟩:=by
  simp[St.f,look,upd,eq_comm]
 rw[e];exact this
theorem Pt.buryS (h:Pt I C1 σ a w S) {n:Name}{k:Nat}{rows:List (List AV)} (Y:aA σ.h n=some (.arr k rows false)) (hk:∀r,r∈rows->fJ r=true) {t:Nat} (ht:look σ.s t=.loc n 0 rows.length) (hd:∀p,p∈(bW n σ).h->iV p.2∧p.2.fz=false) :
  ∃ s x c,(∃b m c',s=Value.slice b m c')∧Own (λ_=>False) w x c k rows s∧(∀b,x=some b->C1.w0.heap.size<=b∧b<w.heap.size∧¬S b)∧
   ∀ s':List (Nat×AV),(∀p,p∈s'->(p.2=look (bW n σ).s p.1∧flat p.2=true)∨(p.2=look σ.s p.1∧dA p.2=true)∨p=(t,.v s))->
    Pt (keepE (λb=>S b∨x=some b) w) C1 ⟨s',(bW n σ).h⟩ a w (λb=>S b∨x=some b):=by
 have U:=h.base;have Z:=h.dom;have hh:=h.sub;have hj:∀{t:Nat},dA (look σ.s t)=true->RC S w (look σ.s t) (a.tmps.getD t undef):=λhc=>h.val hc;obtain⟨hM,hr,C,ρ,κ,hy,hv,hw,hl,H⟩:=h;have hg:=@OK.slots I _ _ _ _ _ _ _ H t;rw[show σ.f.s t=_ from ht] at hg;have J:=@OK.own I C a w S ρ κ σ.f H n k rows Y hk _ hg;have ho:∀b,ρ n=some b->¬S b:=λb F=>J.no F;have hf:∀b,ρ n=some b->b<w.heap.size:=λb F=>H.hok.lt (n:=n) (by rw[show σ.f.h n=_ from Y];rfl) F
 have ha:∀b,ρ n=some b->C1.w0.heap.size<=b:=λb F=>by
  rcases(@OK.back I _ _ _ _ _ _ _ hl _ H).mine n b (by rw[show σ.f.h n=_ from Y];rfl) F with h|h
  .exact h
  .exact(hM b h).elim
 obtain ⟨b0,c0,hu⟩:∃b0 c0,a.tmps.getD t undef=.slice b0 rows.length c0:=by
  obtain⟨_,b1,c1,e,_⟩:=J.loc k rows false rfl;exact⟨b1,c1,e⟩
 refine⟨a.tmps.getD t undef,ρ n,κ n,⟨_,_,_,hu⟩,J.mono (λ_ _ h=>h) (λ_ _=>rfl),λb F=>⟨ha b F,hf b F,ho b F⟩,λs' hs=>?_⟩;have he:@OK I C (bW n σ).f a w S ρ κ:=by rw[pV];exact H.kill n
 have hn:∀m,((bW n σ).f.h m).isSome->m≠n∧(σ.f.h m).isSome:=λm O=>by
  rw[pV] at O;simp only[oF] at O;split at O
  .cases O
  .rename_i hq;refine⟨hq,?_⟩;cases hx:σ.f.h m with
   |none=>rw[hx] at O;cases O
   |some b=>rfl
 obtain ⟨h1,h2⟩:=OK.jump I (keepE (λb=>S b∨ρ n=some b) w) hl hM he (λ_=>False) (Ar _) (λ_ _ _=>rfl) (λ_ h=>h.elim) ⟨rfl,rfl⟩ (S':=λb=>S b∨ρ n=some b) (λb F=>F.elim (Z b) (hf b)) (λb F=>.inl (hh b F))
  (λb F=>F.elim (U b) λh=>.inr (ha b h)) (λb F m O hx=>by
    obtain⟨g1,g2⟩:=hn m O;rcases F with h|h
    . obtain⟨b',L⟩:=AA.1 g2
      exact @OK.noS I _ _ _ _ _ _ _ H _ _ L (hr _ (dB L)).2 _ hx h
    . exact g1 (H.hok.inj m n b g2 (by rw[show σ.f.h n=_ from Y];rfl) hx h)) nC hd s' (λp hp=>by
    rcases hs p hp with h|⟨e,hc⟩|rfl
    . exact .inl h
    . right
      rw[e] at hc⊢;exact RC.mono (λb Y=>.inl Y) (λ_ _=>rfl) (hj hc)
    . right
      exact .v _)
 exact⟨hM,hd,_,ρ,κ,rfl,rfl,λ_ h=>h,h2,h1⟩
end
section
theorem Fn.of_new [Envs] {P:Program}{f:FuncId}{args:List AV}{r:AV} (J:iO P f) (Z:∀x,x∈args->dA x=true)
  (h:∀(S:Nat->Prop) (w:World) (vs:Array Value),(∀b,S b->b<w.heap.size)->Env S w->vs.size=args.length->(∀j,j<args.length->RC S w (args.getD j .junk) (vs.getD j undef))->Calls P f vs w λe w'=>∃(v:Value) (D:Nat->Prop),e=.returned v∧kY w w'∧(∀b,D b->w.heap.size<=b∧b<w'.heap.size)∧RC D w' r v) :
  Fn P f [] args r []:=by
 refine⟨J,λS w ρ κ vs H _ U L=>(h S w vs H.dom H.env U λj O=>(L j O).closed (Z _ ?_)).mono ?_⟩
 .rw[A8,Ba O];exact Aa _
 .rintro e w' ⟨v,D,rfl,hg,hD,hv⟩
  have F:∀n,Hn ([]:List (Option Blk)) n=none:=by
   intro n;cases n<;>simp[Hn]
  exact⟨_,λb=>S b∨D b,λ_=>none,λ_=>0,rfl,⟨⟨λn b J=>(by rw[F] at J;cases J),λn m y Y _ _ _=>(by rw[F] at Y;cases Y),λb J=>J.elim (λh=>AZ (H.dom b h) hg.size) λh=>(hD b h).2,(hg.env H.dom H.env).mono (λ_ h=>.inl h) λ_ _=>rfl⟩,hg.size,λb J _=>hg.old b J,λ_ h=>.inl h,λb J=>J.elim .inl λh=>.inr (.inl (hD b h).1),λj x O=>(by simp at O),hg.out,λj b' O=>(by simp at O)⟩,.clo (hv.mono (λ_ h=>.inr h) λ_ _=>rfl)⟩
end
section
section
variable [Envs]
variable {P:Program}{nt:Nat}{Q:Exit->Act->World->Prop}
end
section
variable [I:Envs]
variable {P:Program}{nt:Nat}{Q:Exit->Act->World->Prop}{a:Act}{w:World}
end
variable {P:Program}{nt:Nat}{Q:Exit->Act->World->Prop}{a:Act}{w:World}
variable {I:Envs}{C1:Ctx}{σ:St}{S:Nat->Prop}
end
section
section
variable [Envs]
variable {P:Program}
theorem kY.alloc (w:World) (o:Obj):kY w (w.alloc o):=
 ⟨by show w.heap.size<=(w.heap.push o).size;simp,λb F=>by show(w.heap.push o)[b]? = _;simp[Array.getElem?_push,Nat.ne_of_lt F],rfl,rfl⟩
end
end
section
section
variable [Envs]
variable {P:Program}
open Go.RowKit
end
end
section
variable {P:Program}{I:Envs}{C1:Ctx}{σ τ:St}{a:Act}{w:World}{S:Nat->Prop}
theorem OK.adopt0 [Envs] {C:Ctx}{ρ:Name->Option Nat}{κ:Name->Nat}{σ:St} (L:OK C σ.f a w S ρ κ) {n:Name} (Y:bT n σ=true) {x:Option Nat}{c k:Nat}{rows:List (List AV)}{v:Value} (O:Own S w x c k rows v)
  (U:∀b,x=some b->(∀m,(σ.f.h m).isSome->ρ m≠some b)∧(C.w0.heap.size<=b∨C.Mut b)) :
  OK C (⟨σ.s,(n,.arr k rows false)::σ.h⟩:St).f a w S (λm=>if m=n then x else ρ m) (λm=>if m=n then c else κ m):=by
 have F:=L.add2 (n:=n) (dP Y) (w':=w) (b:=.arr k rows false) (ox:=x) (kn:=c) (Ar _) (λ_ _ _=>rfl) ⟨rfl,rfl⟩ (λb H=>⟨(U b H).1,O.notS H,(U b H).2⟩) (fun ρ' κ' h' F h2 h3=>by
   have:=O.blk;simp only[wZ] at this⊢;rw[F,h2];exact this)
 have e:(⟨σ.f.s,hput σ.f.h n (some (.arr k rows false))⟩:FSt)=(⟨σ.s,(n,.arr k rows false)::σ.h⟩:St).f:=by
  simp only[St.f,FSt.mk.injEq,Ci];refine funext λm=>?_;by_cases J:m=n
  .subst J;simp[hput,aA]
  .have Z:¬n=m:=λe=>J e.symm;simp[hput,aA,J]
 rw[e] at F;exact F
theorem wY.of_own {S:Nat->Prop}{w:World}{x:Option Nat}{c k:Nat}{rows:List (List AV)}{v:Value} (L:Own S w x c k rows v) {ρ:Name->Option Nat}{κ:Name->Nat}{h:Name->Option Blk}{n:Name} (H:ρ n=x) (h2:κ n=c) (J:h n=some (.arr k rows false)):wY ρ κ h n 0 rows.length v:=by
 intro O U Y F;rw[J] at F;obtain⟨rfl,rfl,rfl⟩:k=O∧rows=U∧false=Y:=by simpa using F
 have:=L.loc k rows false rfl;subst H;subst h2;exact this
theorem Pt.adopt2 (h:Pt I C1 σ a w S) {n1 n2:Name} (ha:n1≠n2) {H F:Option Nat}{c1 c2 Y k2:Nat}{L O:List (List AV)}{v1 v2:Value} (o1:Own (λ_=>False) w H c1 Y L v1) (o2:Own (λ_=>False) w F c2 k2 O v2)
  (hf:∀b,H=some b->C1.w0.heap.size<=b∧S b∧¬C1.S0 b) (hg:∀b,F=some b->C1.w0.heap.size<=b∧S b∧¬C1.S0 b) (hd:∀b,H=some b->F≠some b) {t:Nat} (ht:a.tmps.getD t undef=.agg #[v1,v2])
  (U:List (Nat×AV)) (hs:∀p,p∈U->(p.2=look σ.s p.1∧flat p.2=true)∨RC (λb=>S b∧H≠some b∧F≠some b) w p.2 (a.tmps.getD p.1 undef))
  (hy:bT n1 ⟨U,σ.h⟩=true) (hz:bT n2 ⟨U,(n1,.arr Y L false)::σ.h⟩=true) :
  Pt (keepE (λb=>S b∧H≠some b∧F≠some b) w) C1 ⟨(t,.agg [.loc n1 0 L.length,.loc n2 0 O.length])::U,(n2,.arr k2 O false)::(n1,.arr Y L false)::σ.h⟩ a w (λb=>S b∧H≠some b∧F≠some b):=by
 have hc:=h.base;have hk:=h.dom;have hw:=h.sub;obtain⟨hM,hr,C,ρ,κ,h7,h3,h5,hl,hv⟩:=h
 have he:∀b,S b->∀n,(σ.f.h n).isSome->ρ n≠some b:=λb J n hn hx=>by
  obtain⟨b',hh⟩:=AA.1 hn;exact @OK.noS I _ _ _ _ _ _ _ hv _ _ hh (hr _ (dB hh)).2 _ hx J
 obtain ⟨h1,h2⟩:=OK.jump I (keepE (λb=>S b∧H≠some b∧F≠some b) w) hl hM hv (λ_=>False) (Ar _) (λ_ _ _=>rfl) (λ_ h=>h.elim) ⟨rfl,rfl⟩ (S':=λb=>S b∧H≠some b∧F≠some b) (λb J=>hk b J.1)
  (λb J=>⟨hw b J,λe=>(hf b e).2.2 J,λe=>(hg b e).2.2 J⟩) (λb J=>hc b J.1) (λb J=>he b J.1) nC hr U hs
 have J:=@OK.back (keepE (λb=>S b∧H≠some b∧F≠some b) w) _ _ _ _ _ _ _ h2 _ h1;have a1:=@OK.adopt0 a w (λb=>S b∧H≠some b∧F≠some b) (keepE (λb=>S b∧H≠some b∧F≠some b) w) C1 ρ κ ⟨U,σ.h⟩ J n1 hy H c1 Y L v1 (o1.mono (λb e J=>J.2.1 e) λ_ _=>rfl) (λb e=>⟨λm hm=>he b (hf b e).2.1 m hm,.inl (hf b e).1⟩)
 have a2:=@OK.adopt0 a w (λb=>S b∧H≠some b∧F≠some b) (keepE (λb=>S b∧H≠some b∧F≠some b) w) C1 _ _ ⟨U,(n1,.arr Y L false)::σ.h⟩ a1 n2 hz F c2 k2 O v2 (o2.mono (λb e J=>J.2.2 e) λ_ _=>rfl) (λb e=>⟨λm hm=>by
   by_cases Z:m=n1
   . simp only[Z,Bj]
     exact λe1=>hd b e1 e
   . simp only[Z,Bd]
     refine he b (hg b e).2.1 m ?_;have h4:¬n1=m:=λe=>Z e.symm;have ho:(aA ((n1,.arr Y L false)::σ.h) m).isSome=true:=hm;simp only[aA,Z,Bd] at ho;exact ho,.inl (hg b e).1⟩)
 have hx:@RV (λb=>S b∧H≠some b∧F≠some b) w (λm=>if m=n2 then F else if m=n1 then H else ρ m) (λm=>if m=n2 then c2 else if m=n1 then c1 else κ m) (⟨U,(n2,.arr k2 O false)::(n1,.arr Y L false)::σ.h⟩:St).f.h (.agg [.loc n1 0 L.length,.loc n2 0 O.length]) (a.tmps.getD t undef):=by
  rw[ht];have hq:¬n2=n1:=λe=>ha e.symm;refine .agg _ _ rfl λj hj=>?_
  match j,hj with
  |0,_=>exact .loc _ _ _ _ (wY.of_own o1 (by show(if n1=n2 then F else if n1=n1 then H else ρ n1)=H;rw[AB ha,AP rfl]) (by show(if n1=n2 then c2 else if n1=n1 then c1 else κ n1)=c1;rw[AB ha,AP rfl]) (by simp[St.f,aA,ha,hq]))
  |1,_=>exact .loc _ _ _ _ (wY.of_own o2 (by show(if n2=n2 then F else _)=F;rw[AP rfl]) (by show(if n2=n2 then c2 else _)=c2;rw[AP rfl]) (by simp[St.f,aA]))
 have a3:=@OK.know (keepE (λb=>S b∧H≠some b∧F≠some b) w) C1 a w _ _ _ _ a2 t _ hx
 have e:(⟨upd (⟨U,(n2,.arr k2 O false)::(n1,.arr Y L false)::σ.h⟩:St).f.s (some t) (.agg [.loc n1 0 L.length,.loc n2 0 O.length]),(⟨U,(n2,.arr k2 O false)::(n1,.arr Y L false)::σ.h⟩:St).f.h⟩:FSt)=(⟨(t,.agg [.loc n1 0 L.length,.loc n2 0 O.length])::U,(n2,.arr k2 O false)::(n1,.arr Y L false)::σ.h⟩:St).f:=by
  simp only[St.f,FSt.mk.injEq,and_true];refine funext λu=>?_;by_cases hu:u=t
  .subst hu;simp[upd,look]
  .have h6:¬t=u:=λe=>hu e.symm;simp[upd,look,hu]
 rw[e] at a3
 exact Pt.of_ok hM (λp hp=>by
   rcases Ap.1 hp with rfl|hp
   . exact⟨o2.fl,rfl⟩
   . rcases Ap.1 hp with rfl|hp
     . exact⟨o1.fl,rfl⟩
     . exact hr p hp) (Later.refl C1) a3
theorem Pt.resX (h:Pt I C1 σ a w S) {fn:Func}{x:AV} (hr:dQ P σ (λxs=>dU xs=x) fn.results.toList) :
  a.defers=[]∧∃(u:Value) (ρ:Name->Option Nat) (κ:Name->Nat),(results fn a.tmps).run P w=.ok u w∧RV S w ρ κ σ.f.h x u∧
   (∀n k rows v,aA σ.h n=some (.arr k rows false)->(∀r,r∈rows->fJ r=true)->RV S w ρ κ σ.f.h (.loc n 0 rows.length) v->Own (λ_=>False) w (ρ n) (κ n) k rows v)∧
   (∀n b,(aA σ.h n).isSome->ρ n=some b->C1.w0.heap.size<=b∧b<w.heap.size∧¬S b)∧(∀n m b,(aA σ.h n).isSome->(aA σ.h m).isSome->ρ n=some b->ρ m=some b->n=m):=by
 obtain⟨hM,Y,C,ρ,κ,hd,ha,hc,hl,F⟩:=h;refine⟨@OK.defers I _ _ _ _ _ _ _ F,?_⟩;obtain⟨y,u,hx,Z,O⟩:=mE (P:=P) F (fn:=fn) (K:=λy=>y=x) hr;subst hx;refine⟨u,ρ,κ,O,Z,λn k rows v hb U hv=>(@OK.own I C a w S ρ κ σ.f F n k rows hb U v hv).mono (λ_ _ h=>h) (λ_ _=>rfl),λn b L J=>⟨?_,F.hok.lt L J,λhS=>?_⟩,λn m b L hm h1 h2=>F.hok.inj n m b L hm h1 h2⟩
 .rcases(@OK.back I _ _ _ _ _ _ _ hl _ F).mine n b L J with h|h
  .exact h
  .exact(hM b h).elim
 .obtain⟨b',H⟩:=AA.1 L;exact @OK.noS I _ _ _ _ _ _ _ F _ _ H (Y _ (dB H)).2 _ J hS
theorem Pt.resOne (h:Pt I C1 σ a w S) {fn:Func}{n:Name}{k len:Nat}{rows:List (List AV)} (L:aA σ.h n=some (.arr k rows false)) (O:∀r,r∈rows->fJ r=true)
  (hr:dQ P σ (λxs=>dU xs=.loc n 0 len) fn.results.toList) :
  a.defers=[]∧∃v x,(results fn a.tmps).run P w=.ok v w∧RC (λb=>x=some b) w (.sl k (rows.take len)) v∧∀b,x=some b->C1.w0.heap.size<=b∧b<w.heap.size∧¬S b:=by
 obtain⟨Y,hc,C,ρ,κ,hd,Z,ha,hl,F⟩:=h;refine⟨@OK.defers I _ _ _ _ _ _ _ F,?_⟩;obtain⟨y,u,hx,U,J⟩:=mE (P:=P) F (fn:=fn) (K:=λy=>y=.loc n 0 len) hr;subst hx;refine⟨u,ρ n,J,@OK.exposeP a w S I C ρ κ σ.f F n k len rows false L O u U,λb H=>⟨?_,F.hok.lt (n:=n) (by rw[show σ.f.h n=_ from L];rfl) H,?_⟩⟩
 .rcases(@OK.back I _ _ _ _ _ _ _ hl _ F).mine n b (by rw[show σ.f.h n=_ from L];rfl) H with h|h
  .exact h
  .exact(Y b h).elim
 .exact @OK.noS I _ _ _ _ _ _ _ F _ _ L rfl _ H
end
end Go.Vs
