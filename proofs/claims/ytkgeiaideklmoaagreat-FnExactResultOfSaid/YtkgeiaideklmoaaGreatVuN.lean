/- Structs of two rows in blocks of their own: they get names, and a walk ends with them. -/
import Derived.Test.YtkgeiaideklmoaaGreatVuD
import Derived.Below
import Derived.Deep.Upon
import Derived.Deep.Draws
import Derived.Lib.SliceRun
import Derived.Laws.AppendOwn
set_option linter.all false
set_option maxHeartbeats 8000000
namespace Go.Vs
section
section
variable [Envs]
variable {P:Program}{nt:Nat}{dr:Nat→Array Oper→Option (List Nat)}{Q:Exit→Act→World→Prop}{a:Act}{w:World}
def RgL (P:Program) (nt:Nat) (aops:List aJ) (Q:Exit→Act→World→Prop) (a:Act) (w:World):Prop:=
 ∀(ops:Array Oper) (L:List Nat),L.length=aops.length→(∀(j:Nat) (ao:aJ),aops[j]? = some ao→∃(i:Nat) (o:Oper),L[j]? = some i∧ops[i]? = some o∧mU P nt ops o=some ao.bare)→wpOps P ops Q L a w
theorem RgL.nil (h:Q .normal a w):RgL P nt [] Q a w:=by
 intro ops L F _;have:L=[]:=by simpa using F
 subst this;exact h
theorem RgL.fw {C:Ctx}{K:St→Prop}{post:List aJ} (Y:∀(σ:St) (a:Act) (w:World) (S:Nat→Prop) (ρ:Name→Option Nat) (κ:Name→Nat),K σ→OK C σ.f a w S ρ κ→RgL P C.nt post Q a w) :
  ∀(pre:List aJ) (σ:St) (a:Act) (w:World) (S:Nat→Prop) (ρ:Name→Option Nat) (κ:Name→Nat),vc P K pre σ→OK C σ.f a w S ρ κ→RgL P C.nt (pre++post) Q a w
 | [],σ,a,w,S,ρ,κ,G,F=>Y σ a w S ρ κ G F
 | ao::r,σ,a,w,S,ρ,κ,G,F=>by
  intro ops L hl hs;cases L with
  |nil=>simp at hl
  |cons i L =>
  obtain⟨i',o,hi,ho,hc⟩:=hs 0 ao (by simp);obtain rfl:i=i':=by simpa using hi
  obtain⟨h1,h2,h3,h4⟩:=iT hc;rw[wpOps_cons]
  have ih:∀(σ:St) (a:Act) (w:World) (S:Nat→Prop) (ρ:Name→Option Nat) (κ:Name→Nat),vc P K r σ→OK C σ.f a w S ρ κ→wpOps P ops Q L a w:=fun σ a w S ρ κ G F =>
   RgL.fw Y r σ a w S ρ κ G F ops L (by simpa using hl) (fun j ha hj=>by
     obtain⟨i',o',M,O,U⟩:=hs (j+1) ha (by simpa using hj);exact⟨i',o',by simpa using M,O,U⟩)
  have go:bG P ao.dst σ (vc P K r) ao.op→o.wp P a w (wpOps P ops Q L) Q:=fun hd =>
   Oper.wp_mono (fun a' w' ⟨σ',S',ρ',κ',Y,hok'⟩=>ih σ' a' w' S' ρ' κ' Y hok') (uO (P:=P) h1 F h3 (by rw[h2];exact hd))
  unfold wpOp;rw[ho];simp only[vc] at G;rcases h4 with⟨M,O⟩|⟨j,H,t,M,O,U⟩
  ·rw[O] at G;have:Region.wanted o (yielded ops a.tmps)=true:=by simp[Region.wanted,M]
   simp only[this,if_true];exact .inl (go G)
  ·rw[O] at G;simp only at G;split at G
   ·rename_i b hb;have hw:=xB F M U hb;simp only[hw];by_cases J:b=H
    ·simp only[J,beq_self_eq_true,if_true];exact .inl (go ((jR.1 G).1 J))
    ·have:(b==H)=false:=by simpa using J
     simp only[this,Bool.false_eq_true,if_false];have hn:b = !H:=by cases b<;>cases H<;>simp_all
     refine ih _ _ _ S ρ κ ((jR.1 G).2 hn) ?_;have:=F.put (x:=.v undef) (v:=undef) (.clo (.v _)) h3;rw[h2] at this⊢;simpa[St.f,jX,undef] using this
   ·rename_i cs hb;have hw:=xA F M U hb;simp only[hw,Bool.false_eq_true,if_false];refine ih _ _ _ S ρ κ G ?_;have:=F.put (x:=.v undef) (v:=undef) (.clo (.v _)) h3;rw[h2] at this⊢;simpa[St.f,jX,undef] using this
   ·exact G.elim
theorem RgL.op {o:aJ}{r:List aJ} (hg:o.guard=none) (h:∀(op:Oper) (ops:Array Oper),mU P nt ops op=some o.bare→op.wp P a w (RgL P nt r Q) Q):RgL P nt (o::r) Q a w:=by
 intro ops L M O;cases L with
 |nil=>simp at M
 |cons i L =>
 obtain⟨H,op,hi,ho,J⟩:=O 0 o (by simp);obtain rfl:i=H:=by simpa using hi
 obtain⟨_,_,_,h4⟩:=iT J
 have G:op.guard=none:=by
  rcases h4 with⟨h,_⟩|⟨j,U,t,_,h,_⟩
  ·exact h
  ·rw[hg] at h;cases h
 rw[wpOps_cons];unfold wpOp;rw[ho];have:Region.wanted op (yielded ops a.tmps)=true:=by simp[Region.wanted,G]
 simp only[this,if_true]
 exact .inl (Oper.wp_mono (fun a' w' hr=>hr ops L (by simpa using M) fun j F hj=>by
   obtain⟨H,o',Y,g2,g3⟩:=O (j+1) F (by simpa using hj);exact⟨H,o',by simpa using Y,g2,g3⟩) (h op ops J))
theorem At.rg {F:List aJ}{out:List Nat} (h:RgL P nt F Q a w):At P nt dr (.region F out []) Q a w:=by
 intro c G O;cases c
 case region id ops draw =>
  simp only[bF,aF.bare] at G;split at G
  ·rename_i Y J;cases ho:aAQ P nt ops ops.toList with
   |none=>rw[ho] at G;cases G
   | some l =>
    rw[ho] at G;simp only[Option.map_some,Option.some.injEq,aF.region.injEq,true_and] at G;obtain⟨hl,L⟩:=G;subst hl;subst L;cases draw with
    | true =>
     have hd:dr nt ops=some []:=by simpa using J
     simp[zB,hd] at O
    | false =>
     obtain⟨g1,g2⟩:=kM ho;have H:ops.size=F.length:=by simpa using g1
     refine wp_region (h ops _ (by rw[List.length_range,H]) fun j ao U=>?_);obtain⟨o,q1,q2⟩:=g2 j ao U
     have M:j<ops.size:=by
      rw[H];rcases Nat.lt_or_ge j F.length with h|h
      ·exact h
      ·simp[List.getElem?_eq_none h] at U
     exact⟨j,o,by simp[M],by simpa using q1,q2⟩
  ·cases G
 all_goals(simp only[bF,aF.bare] at G;first|(cases G;done)|(split at G<;>simp at G)|(simp at G))
def aEu (ops:Array Oper):Nat→Array Bool→List (List Nat)
 |0,_=>[[]]
 | fuel+1,listed =>
  match(List.range ops.size).filter fun i=>!listed.getD i true&&((ops[i]?).map (·.after.all fun e=>!Region.binds .any e||listed.getD e.on false)).getD false with
  | []=>[[]]
  |rs=>rs.flatMap fun i=>(aEu ops fuel (listed.setIfInBounds i true)).map (i :: ·)
theorem aCH (ops:Array Oper):∀(fuel t:Nat) (F:Array Bool) (G:List Nat),∃L,L∈aEu ops fuel F∧Region.linearise.go .any ops fuel t F G=G.reverse++L
 |0,t,F,G=>⟨[],by simp[aEu],by simp[Region.linearise.go]⟩
 | fuel+1,t,F,G=>by
  simp only[Region.linearise.go,aEu];generalize M:((List.range ops.size).filter fun i=>!F.getD i true&&((ops[i]?).map (·.after.all fun e=>!Region.binds .any e||F.getD e.on false)).getD false)=rs;cases rs with
  |nil=>exact⟨[],by simp,by simp⟩
  | cons x xs =>
   have H:t%(x::xs).length<(x::xs).length:=Nat.mod_lt _ (by simp);rw[List.getElem?_eq_getElem H];obtain⟨L,J,h2⟩:=aCH ops fuel (t/(x::xs).length) (F.setIfInBounds ((x::xs)[t%(x::xs).length]) true) ((x::xs)[t%(x::xs).length]::G);refine⟨(x::xs)[t%(x::xs).length]::L,?_,?_⟩
   ·exact List.mem_flatMap.2 ⟨_,List.getElem_mem H,List.mem_map.2 ⟨L,J,rfl⟩⟩
   ·simp only[h2];simp
def yX (ops:Array Oper):List (List Nat):=aEu ops ops.size (Array.replicate ops.size false)
theorem aF9 (ops:Array Oper) (t:Nat):Region.schedule true ops t∈yX ops:=by
 obtain⟨L,F,h2⟩:=aCH ops ops.size t (Array.replicate ops.size false) []
 have e:Region.schedule true ops t=L:=by
  simp only[Region.schedule,Bool.true_or,if_true,Region.linearise];simpa using h2
 rw[e];exact F
end
variable {P:Program}{nt:Nat}{dr:Nat→Array Oper→Option (List Nat)}{Q:Exit→Act→World→Prop}{a:Act}{w:World}
variable {I:Envs}{C1:Ctx}{σ τ:St}{S:Nat→Prop}
theorem Pt.drew (h:Pt I C1 σ a w S):Pt I C1 σ a {w with drawn:=w.drawn+1} S:=by
 obtain⟨G,M,C,ρ,κ,O,H,L,J,F⟩:=h;exact Pt.of_ok G M J (@OK.ext I C σ.f a w {w with drawn:=w.drawn+1} S ρ κ F (Ext.of_heap rfl rfl rfl))
theorem Past.drew:Past S w S {w with drawn:=w.drawn+1}:=⟨fun _ h=>h,fun _ _=>rfl,Nat.le_refl _⟩
theorem Pt.rg (hp:Pt I C1 σ a w S) (hd:C1.nt=nt) {pre post:List aJ} (hτ:∀p,p∈τ.h→iF p.2∧p.2.fz=false) (hv:@vc I P (fun σ'=>LeL σ' τ) pre σ)
  (h:∀O w' S',Past S w S' w'→Pt I C1 τ O w' S'→RgL P nt post Q O w'):RgL P nt (pre++post) Q a w:=by
 have he:=hp;obtain⟨hM,hr,C,ρ,κ,hf,U,ha,J,L⟩:=hp;have G:C.nt=nt:=J.nt.trans hd
 have hc:∀b,S b→b<w.heap.size∧¬C.Mut b:=fun b hb=>⟨he.dom b hb,fun hm=>by
   obtain⟨n,hn,hx⟩:=ha b hm;obtain⟨b',H⟩:=Option.isSome_iff_exists.1 hn;exact @OK.noS I _ _ _ _ _ _ _ L _ _ H (hr _ (fP H)).2 _ hx hb⟩
 subst G;refine @RgL.fw I P Q C (fun σ'=>LeL σ' τ) post (fun σ' O w' S' ρ' κ' Y M=>?_) pre σ a w S ρ κ hv L;have F:=@OK.le I _ _ _ _ _ _ _ _ M Y;exact h O w' S' (Pt.later hf U hc F) (Pt.of_ok hM hτ J F)
theorem Pt.rgcall (hp:Pt I C1 σ a w S) (U:C1.nt=nt) {f:FuncId}{ts:List Nat}{ys:List AV}{bor:List Nat}{d:Nat}{r:List aJ} (hb:mW P f) (hl:ts.length=ys.length) (J:∀i,i<ts.length→look σ.s (ts.getD i 0)=ys.getD i .junk) (M:∀i,i<ts.length→dY (ys.getD i .junk)=true)
  (h:∀vs:Array Value,vs.size=ys.length→(∀j,j<ys.length→RC S w (ys.getD j .junk) (vs.getD j undef))→Calls P f vs w fun e w'=>∃u,e=.returned u∧RgL P nt r Q (a.put (some d) u) w') :
  RgL P nt (⟨some d,.call (.func f) (ts.map .tmp) bor,none⟩::r) Q a w:=by
 have L:∀i,i<ts.length→RC S w (ys.getD i .junk) (a.tmps.getD (ts.getD i 0) undef):=fun i hi=>by
  have:=hp.val (t:=ts.getD i 0) (by rw[J i hi];exact M i hi);rw[J i hi] at this;exact this
 obtain⟨hM,hr,C,ρ,κ,hd,ha,hc,O,Y⟩:=hp;have F:C.nt=nt:=O.nt.trans U;refine RgL.op rfl fun op ops G=>?_;refine @aDB I P C a w S ρ κ ops σ.f op _ f (ts.map .tmp) bor (by rw[F];exact G) rfl Y hb _ _ ?_;refine h _ (by simp[hl]) fun j hj=>?_;have H:j<ts.length:=by omega
 have e2:((ts.map Operand.tmp).map a.eval).toArray.getD j undef=a.tmps.getD (ts.getD j 0) undef:=by
  simp[H,Act.eval]
 rw[e2];exact L j H
theorem fvN {α:Type}{P:α→Prop}:∀p,p∈([]:List α)→P p:=fun p F=>by cases F
theorem fvC {α:Type}{P:α→Prop}{x:α}{l:List α} (h:P x) (t:∀p,p∈l→P p):∀p,p∈x::l→P p:=fun p F=>by
 rcases List.mem_cons.1 F with rfl|F
 ·exact h
 ·exact t p F
theorem flE {α:Type}{c:α→List AV}{l:List α} (h:∀x,jQ (c x)=true):∀r,r∈E c l→jQ r=true:=fun r F=>by
 obtain⟨x,_,rfl⟩:=List.mem_map.1 F;exact h x
theorem Pt.rgN (H:Pt I C1 σ a w S) (F:C1.nt=nt) (n:Nat) {ops:List aJ} (J:@vc I P (fun σ'=>LeL σ' τ) (ops.take n) σ)
  (h:∀G w' S',Past S w S' w'→Pt I C1 τ G w' S'→RgL P nt (ops.drop n) Q G w') (L:∀p,p∈τ.h→iF p.2∧p.2.fz=false:=by repeat first|exact fvN|refine fvC ⟨rfl,rfl⟩ ?_|refine fvC ⟨flE fun _=>rfl,rfl⟩ ?_):RgL P nt ops Q a w:=by
 have:=H.rg F (pre:=ops.take n) (post:=ops.drop n) L J h
 rwa [List.take_append_drop] at this
theorem Pt.goT {dr:Nat→Array Oper→Option (List Nat)} (O:Pt I C1 σ a w S) (G:@iU I P dr) (H:C1.nt=nt) (n:Nat) (c:aF)
  (U:∀C:Ctx,C.nt=nt→@aCq I P C dr n c (fun σ'=>LeL σ' τ∧True) (fun _ _=>False) σ)
  (L:∀F w' S',Past S w S' w'→Pt I C1 τ F w' S'→At P nt dr (kP n c) Q F w') (Y:∀p,p∈τ.h→iF p.2∧p.2.fz=false:=by repeat first|exact fvN|refine fvC ⟨rfl,rfl⟩ ?_|refine fvC ⟨flE fun _=>rfl,rfl⟩ ?_):At P nt dr c Q a w:=
 O.go G H n c (X:=True) (E:=fun _ _=>False) Y U (fun i σ h=>h) (fun C a w hl M=>by obtain⟨_,_,_,_,h,_⟩:=M;exact h.elim) fun F w' S' J h2 _=>L F w' S' J h2
theorem Pt.rgc (M:Pt I C1 σ a w S) (J:C1.nt=nt) {f:FuncId}{ts:List Nat}{ys:List AV}{bor:List Nat}{d:Nat}{r:List aJ} (L:mW P f) (F:ts.map (look σ.s)=ys) (G:ys.all dY=true)
  (h:∀vs:Array Value,vs.size=ys.length→(∀j,j<ys.length→RC S w (ys.getD j .junk) (vs.getD j undef))→Calls P f vs w fun e w'=>∃u,e=.returned u∧RgL P nt r Q (a.put (some d) u) w') :
  RgL P nt (⟨some d,.call (.func f) (ts.map .tmp) bor,none⟩::r) Q a w:=
 M.rgcall J (ts:=ts) L (by rw[←F,List.length_map]) (fun i hi=>by rw[←F];simp[hi]) (fun i hi=>by
   rw[List.all_eq_true] at G;have H:i<ys.length:=by rw[←F,List.length_map];exact hi
   rw[List.getD_eq_getElem?_getD,List.getElem?_eq_getElem H];exact G _ (List.getElem_mem H)) h
end
section
variable {P:Program}{nt:Nat}{Q:Exit→Act→World→Prop}{a:Act}{w:World}{S:Nat→Prop}
theorem Pt.calls [I:Envs] {dr:Nat→Array Oper→Option (List Nat)}{f:FuncId}{fn:Func}{F:Code}{ac:aF} (hf:P.funcs[f]? = some fn) (U:fn.body=some F) (Y:bF P fn.ntmps dr F=some ac.bare) (hz:zB fn.ntmps dr F=true) {args:List AV} (H:args.length≤fn.ntmps)
  {vs:Array Value} (O:∀b,S b→b<w.heap.size) (he:Env S w) (L:vs.size=args.length) (G:∀j,j<args.length→RC S w (args.getD j .junk) (vs.getD j undef)) {R:Ending→World→Prop}
  (h : ∀(C1:Ctx) (a:Act),C1.nt=fn.ntmps→C1.w0=w→C1.S0=S→Pt I C1 ⟨ini 0 args,[]⟩ a w S→
    At P fn.ntmps dr ac (fun e M w'=>(e=.ret∨e=.normal)∧M.defers=[]∧∃v,(results fn M.tmps).run P w'=.ok v w'∧R (.returned v) w') a w):Calls P f vs w R:=
 aAp hf U Y hz H O he L G (fun _=>False) fun a J=>h _ a rfl rfl rfl (Pt.of_ok (fun _ h=>h) (fun p hp=>by cases hp) (Later.refl _) J)
variable {I:Envs}{C1:Ctx}{σ τ:St}
theorem aJL.later {G H J:World}{ls:List (List (List AV))}{v:Value}{m:Mem} (O:Dk H ls v m) (U:∀b,m.D b→G.heap.size≤b) {S S':Nat→Prop} (L:∀b,m.D b→S b) (F:Past S H S' J):aJL G J ls v:=
 ⟨m,O.same F.size fun b M=>F.old b (L b M),U⟩
theorem Pt.fin {dr:Nat→Array Oper→Option (List Nat)} (hp:Pt I C1 σ a w S) (H:@iU I P dr) (J:C1.nt=nt) {c:aF}{E:sG→St→Prop} (hv:∀C:Ctx,C.nt=nt→@wpc I P C dr c (fun _=>False) E σ) (O:∀i σ,¬E (.exit i) σ)
  (U:∀C a w,Later C1 C→@cK I C (E .ret) a w→Q .ret a w):At P nt dr c Q a w:=by
 obtain⟨hM,hr,C,ρ,κ,hb,Y,ha,M,L⟩:=hp;have F:C.nt=nt:=M.nt.trans J
 exact At.fw H L F (hv C F) (fun a w G=>G.no.elim) (fun i a w G=>by
   obtain⟨σ',_,_,_,h,_⟩:=G;exact(O i σ' h).elim) (fun a w G=>U C a w M G)
theorem Past.grow {w':World}{D:Nat→Prop} (F:mZ w w') (G:∀b,S b→b<w.heap.size):Past S w (fun b=>S b∨D b) w':=⟨fun _ h=>.inl h,fun b H=>F.old b (G b H),F.size⟩
theorem Past.mark {G K:Nat→Prop}{L w':World}{D:Nat→Prop} (h:Past G L S w) (F:∀b,S b→b<w.heap.size) (J:w.heap.size≤w'.heap.size) (Y:∀b,b<w.heap.size→¬D b→w'.heap[b]? = w.heap[b]?) (M:∀b,D b→¬G b) (O:∀b,G b→K b):Past G L K w':=
 ⟨O,fun b H=>(Y b (F b (h.sub b H)) fun U=>M b U H).trans (h.old b H),Nat.le_trans h.size J⟩
theorem Dk.past {ls:List (List (List AV))}{v:Value}{m:Mem}{S':Nat→Prop}{w':World} (J:Dk w ls v m) (G:∀b,m.D b→S b) (F:Past S w S' w'):Dk w' ls v m:=J.same F.size fun b H=>F.old b (G b H)
theorem us2 {us:Array Value} (h:us.size=2) {v c:Value} (H:us.getD 0 undef=v) (J:us.getD 1 undef=c):us=#[v,c]:=by
 obtain⟨l⟩:=us
 match l,h with
 | [x,y],_ =>
  have F:x=v:=by simpa using H
  have G:y=c:=by simpa using J
  rw[F,G]
theorem us1 {us:Array Value} (h:us.size=1) {v:Value} (G:us.getD 0 undef=v):us=#[v]:=by
 obtain⟨l⟩:=us
 match l,h with
 | [x],_ =>
  have F:x=v:=by simpa using G
  rw[F]
theorem aFy {v u:Value} (h:RC S w (.v v) u):u=v:=by cases h;rfl
theorem Fn.calls0 [Envs] {f:FuncId}{ys:List AV}{r:AV} (h:Fn P f [] ys r []) (U:dY r=true) {vs:Array Value} (O:∀b,S b→b<w.heap.size) (Y:Env S w) (L:vs.size=ys.length) (G:∀j,j<ys.length→RC S w (ys.getD j .junk) (vs.getD j undef)) :
  Calls P f vs w fun e w'=>∃v S',e=.returned v∧mZ w w'∧RC S' w' r v:=by
 have F:∀n,Hn (([]:List Blk).map some) n=none:=by
  intro n;cases n<;>simp[Hn]
 have H:HOK S w (fun _=>none) (fun _=>0) (Hn (([]:List Blk).map some)):=
  ⟨fun n b J=>(by rw[F] at J;cases J),fun n m y M _ _ _=>(by rw[F] at M;cases M),O,Y⟩
 refine(h.2 S w _ _ vs H (by simp) L fun j hj=>.clo (G j hj)).mono ?_;rintro e w' ⟨u,S',ρ',κ',rfl,hp,hu⟩;exact⟨u,S',rfl,⟨hp.size,fun b J=>hp.old b J aAE,hp.out⟩,RV.closed hu U⟩
end
section
theorem At.closing {P:Program}{nt:Nat}{dr:Nat→Array Oper→Option (List Nat)}{n:Nat}{x:aF}{Q:Exit→Act→World→Prop}{a:Act}{w:World} (h:At P nt dr x Q a w):At P nt dr (.closing n x) Q a w:=h
section
variable [Envs]
variable {P:Program}{nt:Nat}{Q:Exit→Act→World→Prop}
end
section
variable [I:Envs]
variable {P:Program}{nt:Nat}{Q:Exit→Act→World→Prop}{a:Act}{w:World}
theorem aA4 {a:Act}{d t:Nat}{v:Value} (h:d≠t):(a.put (some d) v).tmps.getD t undef=a.tmps.getD t undef:=by
 simp[Act.put,Array.getElem?_setIfInBounds_ne h]
end
variable {P:Program}{I:Envs}{C1:Ctx}{σ τ:St}{S:Nat→Prop}{a:Act}{w:World}
theorem Pt.mv (h:Pt I C1 σ a w S) {d s:Nat} (U:d<C1.nt):Pt I C1 ⟨(d,look σ.s s)::σ.s,σ.h⟩ (a.put (some d) (a.tmps.getD s undef)) w S:=by
 obtain⟨O,Y,C,ρ,κ,L,G,J,M,F⟩:=h;refine⟨O,Y,C,ρ,κ,L,G,J,M,?_⟩
 have:=@OK.put I C σ.f a w S ρ κ F (look σ.s s) (a.tmps.getD s undef) (@OK.slots I _ _ _ _ _ _ _ F s) (some d) (fun d' H=>by
   obtain rfl:=Option.some.inj H;rw[M.nt];exact U)
 have e:(⟨(d,look σ.s s)::σ.s,σ.h⟩:St).f=⟨upd σ.f.s (some d) (look σ.s s),σ.f.h⟩:=by
  simp[St.f,look,upd,eq_comm]
 rw[e];exact this
theorem Pt.buryS (h:Pt I C1 σ a w S) {n:Name}{k:Nat}{rows:List (List AV)} (O:aB σ.h n=some (.arr k rows false)) (hk:∀r,r∈rows→jQ r=true) {t:Nat} (ht:look σ.s t=.loc n 0 rows.length) (ha:∀p,p∈(aW n σ).h→iF p.2∧p.2.fz=false) :
  ∃ s x c,(∃b m c',s=Value.slice b m c')∧Own (fun _=>False) w x c k rows s∧(∀b,x=some b→C1.w0.heap.size≤b∧b<w.heap.size∧¬S b)∧
   ∀ s':List (Nat×AV),(∀p,p∈s'→(p.2=look (aW n σ).s p.1∧flat p.2=true)∨(p.2=look σ.s p.1∧dY p.2=true)∨p=(t,.v s))→
    Pt (keepE (fun b=>S b∨x=some b) w) C1 ⟨s',(aW n σ).h⟩ a w (fun b=>S b∨x=some b):=by
 have M:=h.base;have U:=h.dom;have hg:=h.sub;have hj:∀{t:Nat},dY (look σ.s t)=true→RC S w (look σ.s t) (a.tmps.getD t undef):=fun hc=>h.val hc;obtain⟨hM,hr,C,ρ,κ,hy,hv,hw,hl,G⟩:=h;have hf:=@OK.slots I _ _ _ _ _ _ _ G t;rw[show σ.f.s t=_ from ht] at hf;have H:=@OK.own I C a w S ρ κ σ.f G n k rows O hk _ hf;have ho:∀b,ρ n=some b→¬S b:=fun b F=>H.no F;have he:∀b,ρ n=some b→b<w.heap.size:=fun b F=>G.hok.lt (n:=n) (by rw[show σ.f.h n=_ from O];rfl) F
 have Y:∀b,ρ n=some b→C1.w0.heap.size≤b:=fun b F=>by
  rcases(@OK.back I _ _ _ _ _ _ _ hl _ G).mine n b (by rw[show σ.f.h n=_ from O];rfl) F with h|h
  ·exact h
  ·exact(hM b h).elim
 obtain ⟨b0,c0,hu⟩:∃b0 c0,a.tmps.getD t undef=.slice b0 rows.length c0:=by
  obtain⟨_,b1,c1,e,_⟩:=H.loc k rows false rfl;exact⟨b1,c1,e⟩
 refine⟨a.tmps.getD t undef,ρ n,κ n,⟨_,_,_,hu⟩,H.mono (fun _ _ h=>h) (fun _ _=>rfl),fun b F=>⟨Y b F,he b F,ho b F⟩,fun s' hs=>?_⟩;have hd:@OK I C (aW n σ).f a w S ρ κ:=by rw[nX];exact G.kill n
 have hn:∀m,((aW n σ).f.h m).isSome→m≠n∧(σ.f.h m).isSome:=fun m L=>by
  rw[nX] at L;simp only[nA] at L;split at L
  ·cases L
  ·rename_i hq;refine⟨hq,?_⟩;cases hx:σ.f.h m with
   |none=>rw[hx] at L;cases L
   |some b=>rfl
 obtain ⟨h1,h2⟩:=OK.jump I (keepE (fun b=>S b∨ρ n=some b) w) hl hM hd (fun _=>False) (Nat.le_refl _) (fun _ _ _=>rfl) (fun _ h=>h.elim) ⟨rfl,rfl⟩ (S':=fun b=>S b∨ρ n=some b) (fun b F=>F.elim (U b) (he b)) (fun b F=>.inl (hg b F))
  (fun b F=>F.elim (M b) fun h=>.inr (Y b h)) (fun b F m L hx=>by
    obtain⟨g1,g2⟩:=hn m L;rcases F with h|h
    · obtain⟨b',J⟩:=Option.isSome_iff_exists.1 g2
      exact @OK.noS I _ _ _ _ _ _ _ G _ _ J (hr _ (fP J)).2 _ hx h
    · exact g1 (G.hok.inj m n b g2 (by rw[show σ.f.h n=_ from O];rfl) hx h)) tX ha s' (fun p hp=>by
    rcases hs p hp with h|⟨e,hc⟩|rfl
    · exact .inl h
    · right
      rw[e] at hc⊢;exact RC.mono (fun b O=>.inl O) (fun _ _=>rfl) (hj hc)
    · right
      exact .v _)
 exact⟨hM,ha,_,ρ,κ,rfl,rfl,fun _ h=>h,h2,h1⟩
end
section

end
section
section
variable [Envs]
variable {P:Program}{nt:Nat}{Q:Exit→Act→World→Prop}
end
section
variable [I:Envs]
variable {P:Program}{nt:Nat}{Q:Exit→Act→World→Prop}{a:Act}{w:World}
end
variable {P:Program}{nt:Nat}{Q:Exit→Act→World→Prop}{a:Act}{w:World}
variable {I:Envs}{C1:Ctx}{σ:St}{S:Nat→Prop}
end
section
section
variable [Envs]
variable {P:Program}
theorem mZ.alloc (w:World) (o:Obj):mZ w (w.alloc o):=
 ⟨by show w.heap.size≤(w.heap.push o).size;simp,fun b F=>by show(w.heap.push o)[b]? = _;simp[Array.getElem?_push,Nat.ne_of_lt F],rfl,rfl⟩
end
end
section
section
variable [Envs]
variable {P:Program}
open Go.RowKit
end
end
section
variable {P:Program}{I:Envs}{C1:Ctx}{σ τ:St}{a:Act}{w:World}{S:Nat→Prop}
theorem OK.adopt0 [Envs] {C:Ctx}{ρ:Name→Option Nat}{κ:Name→Nat}{σ:St} (J:OK C σ.f a w S ρ κ) {n:Name} (O:bT n σ=true) {x:Option Nat}{c k:Nat}{rows:List (List AV)}{v:Value} (L:Own S w x c k rows v)
  (M:∀b,x=some b→(∀m,(σ.f.h m).isSome→ρ m≠some b)∧(C.w0.heap.size≤b∨C.Mut b)) :
  OK C (⟨σ.s,(n,.arr k rows false)::σ.h⟩:St).f a w S (fun m=>if m=n then x else ρ m) (fun m=>if m=n then c else κ m):=by
 have F:=J.add2 (n:=n) (dI O) (w':=w) (b:=.arr k rows false) (ox:=x) (kn:=c) (Nat.le_refl _) (fun _ _ _=>rfl) ⟨rfl,rfl⟩ (fun b G=>⟨(M b G).1,L.notS G,(M b G).2⟩) (fun ρ' κ' h' F h2 Y=>by
   have:=L.blk;simp only[vJ] at this⊢;rw[F,h2];exact this)
 have e:(⟨σ.f.s,hput σ.f.h n (some (.arr k rows false))⟩:FSt)=(⟨σ.s,(n,.arr k rows false)::σ.h⟩:St).f:=by
  simp only[St.f,FSt.mk.injEq,true_and];refine funext fun m=>?_;by_cases H:m=n
  ·subst H;simp[hput,aB]
  ·have U:¬n=m:=fun e=>H e.symm;simp[hput,aB,H]
 rw[e] at F;exact F
theorem wY.of_own {S:Nat→Prop}{w:World}{x:Option Nat}{c k:Nat}{rows:List (List AV)}{v:Value} (J:Own S w x c k rows v) {ρ:Name→Option Nat}{κ:Name→Nat}{h:Name→Option Blk}{n:Name} (G:ρ n=x) (h2:κ n=c) (H:h n=some (.arr k rows false)):wY ρ κ h n 0 rows.length v:=by
 intro L M O F;rw[H] at F;obtain⟨rfl,rfl,rfl⟩:k=L∧rows=M∧false=O:=by simpa using F
 have:=J.loc k rows false rfl;subst G;subst h2;exact this
theorem Pt.adopt2 (h:Pt I C1 σ a w S) {n1 n2:Name} (Y:n1≠n2) {G F:Option Nat}{c1 c2 O k2:Nat}{J L:List (List AV)}{v1 v2:Value} (o1:Own (fun _=>False) w G c1 O J v1) (o2:Own (fun _=>False) w F c2 k2 L v2)
  (he:∀b,G=some b→C1.w0.heap.size≤b∧S b∧¬C1.S0 b) (hf:∀b,F=some b→C1.w0.heap.size≤b∧S b∧¬C1.S0 b) (hd:∀b,G=some b→F≠some b) {t:Nat} (ht:a.tmps.getD t undef=.agg #[v1,v2])
  (M:List (Nat×AV)) (hs:∀p,p∈M→(p.2=look σ.s p.1∧flat p.2=true)∨RC (fun b=>S b∧G≠some b∧F≠some b) w p.2 (a.tmps.getD p.1 undef))
  (hy:bT n1 ⟨M,σ.h⟩=true) (hz:bT n2 ⟨M,(n1,.arr O J false)::σ.h⟩=true) :
  Pt (keepE (fun b=>S b∧G≠some b∧F≠some b) w) C1 ⟨(t,.agg [.loc n1 0 J.length,.loc n2 0 L.length])::M,(n2,.arr k2 L false)::(n1,.arr O J false)::σ.h⟩ a w (fun b=>S b∧G≠some b∧F≠some b):=by
 have ha:=h.base;have hk:=h.dom;have hw:=h.sub;obtain⟨hM,hr,C,ρ,κ,h6,h0,h4,hl,hv⟩:=h
 have hc:∀b,S b→∀n,(σ.f.h n).isSome→ρ n≠some b:=fun b H n hn hx=>by
  obtain⟨b',hg⟩:=Option.isSome_iff_exists.1 hn;exact @OK.noS I _ _ _ _ _ _ _ hv _ _ hg (hr _ (fP hg)).2 _ hx H
 obtain ⟨h1,h2⟩:=OK.jump I (keepE (fun b=>S b∧G≠some b∧F≠some b) w) hl hM hv (fun _=>False) (Nat.le_refl _) (fun _ _ _=>rfl) (fun _ h=>h.elim) ⟨rfl,rfl⟩ (S':=fun b=>S b∧G≠some b∧F≠some b) (fun b H=>hk b H.1)
  (fun b H=>⟨hw b H,fun e=>(he b e).2.2 H,fun e=>(hf b e).2.2 H⟩) (fun b H=>ha b H.1) (fun b H=>hc b H.1) tX hr M hs
 have H:=@OK.back (keepE (fun b=>S b∧G≠some b∧F≠some b) w) _ _ _ _ _ _ _ h2 _ h1;have a1:=@OK.adopt0 a w (fun b=>S b∧G≠some b∧F≠some b) (keepE (fun b=>S b∧G≠some b∧F≠some b) w) C1 ρ κ ⟨M,σ.h⟩ H n1 hy G c1 O J v1 (o1.mono (fun b e H=>H.2.1 e) fun _ _=>rfl) (fun b e=>⟨fun m hm=>hc b (he b e).2.1 m hm,.inl (he b e).1⟩)
 have a2:=@OK.adopt0 a w (fun b=>S b∧G≠some b∧F≠some b) (keepE (fun b=>S b∧G≠some b∧F≠some b) w) C1 _ _ ⟨M,(n1,.arr O J false)::σ.h⟩ a1 n2 hz F c2 k2 L v2 (o2.mono (fun b e H=>H.2.2 e) fun _ _=>rfl) (fun b e=>⟨fun m hm=>by
   by_cases U:m=n1
   · simp only[U,if_true]
     exact fun e1=>hd b e1 e
   · simp only[U,if_false]
     refine hc b (hf b e).2.1 m ?_;have h3:¬n1=m:=fun e=>U e.symm;have ho:(aB ((n1,.arr O J false)::σ.h) m).isSome=true:=hm;simp only[aB,U,if_false] at ho;exact ho,.inl (hf b e).1⟩)
 have hx:@RV (fun b=>S b∧G≠some b∧F≠some b) w (fun m=>if m=n2 then F else if m=n1 then G else ρ m) (fun m=>if m=n2 then c2 else if m=n1 then c1 else κ m) (⟨M,(n2,.arr k2 L false)::(n1,.arr O J false)::σ.h⟩:St).f.h (.agg [.loc n1 0 J.length,.loc n2 0 L.length]) (a.tmps.getD t undef):=by
  rw[ht];have hq:¬n2=n1:=fun e=>Y e.symm;refine .agg _ _ rfl fun j hj=>?_
  match j,hj with
  |0,_=>exact .loc _ _ _ _ (wY.of_own o1 (by show(if n1=n2 then F else if n1=n1 then G else ρ n1)=G;rw[if_neg Y,if_pos rfl]) (by show(if n1=n2 then c2 else if n1=n1 then c1 else κ n1)=c1;rw[if_neg Y,if_pos rfl]) (by simp[St.f,aB,Y,hq]))
  |1,_=>exact .loc _ _ _ _ (wY.of_own o2 (by show(if n2=n2 then F else _)=F;rw[if_pos rfl]) (by show(if n2=n2 then c2 else _)=c2;rw[if_pos rfl]) (by simp[St.f,aB]))
 have a3:=@OK.know (keepE (fun b=>S b∧G≠some b∧F≠some b) w) C1 a w _ _ _ _ a2 t _ hx
 have e:(⟨upd (⟨M,(n2,.arr k2 L false)::(n1,.arr O J false)::σ.h⟩:St).f.s (some t) (.agg [.loc n1 0 J.length,.loc n2 0 L.length]),(⟨M,(n2,.arr k2 L false)::(n1,.arr O J false)::σ.h⟩:St).f.h⟩:FSt)=(⟨(t,.agg [.loc n1 0 J.length,.loc n2 0 L.length])::M,(n2,.arr k2 L false)::(n1,.arr O J false)::σ.h⟩:St).f:=by
  simp only[St.f,FSt.mk.injEq,and_true];refine funext fun u=>?_;by_cases hu:u=t
  ·subst hu;simp[upd,look]
  ·have h5:¬t=u:=fun e=>hu e.symm;simp[upd,look,hu]
 rw[e] at a3
 exact Pt.of_ok hM (fun p hp=>by
   rcases List.mem_cons.1 hp with rfl|hp
   · exact⟨o2.fl,rfl⟩
   · rcases List.mem_cons.1 hp with rfl|hp
     · exact⟨o1.fl,rfl⟩
     · exact hr p hp) (Later.refl C1) a3
theorem Pt.resX (h:Pt I C1 σ a w S) {fn:Func}{x:AV} (hr:rR P σ (fun xs=>oJ xs=x) fn.results.toList) :
  a.defers=[]∧∃(u:Value) (ρ:Name→Option Nat) (κ:Name→Nat),(results fn a.tmps).run P w=.ok u w∧RV S w ρ κ σ.f.h x u∧
   (∀n k rows v,aB σ.h n=some (.arr k rows false)→(∀r,r∈rows→jQ r=true)→RV S w ρ κ σ.f.h (.loc n 0 rows.length) v→Own (fun _=>False) w (ρ n) (κ n) k rows v)∧
   (∀n b,(aB σ.h n).isSome→ρ n=some b→C1.w0.heap.size≤b∧b<w.heap.size∧¬S b)∧(∀n m b,(aB σ.h n).isSome→(aB σ.h m).isSome→ρ n=some b→ρ m=some b→n=m):=by
 obtain⟨hM,O,C,ρ,κ,hd,ha,hc,hl,F⟩:=h;refine⟨@OK.defers I _ _ _ _ _ _ _ F,?_⟩;obtain⟨y,u,hx,U,L⟩:=uR (P:=P) F (fn:=fn) (K:=fun y=>y=x) hr;subst hx;refine⟨u,ρ,κ,L,U,fun n k rows v hb M hv=>(@OK.own I C a w S ρ κ σ.f F n k rows hb M v hv).mono (fun _ _ h=>h) (fun _ _=>rfl),fun n b J H=>⟨?_,F.hok.lt J H,fun hS=>?_⟩,fun n m b J hm Y h2=>F.hok.inj n m b J hm Y h2⟩
 ·rcases(@OK.back I _ _ _ _ _ _ _ hl _ F).mine n b J H with h|h
  ·exact h
  ·exact(hM b h).elim
 ·obtain⟨b',G⟩:=Option.isSome_iff_exists.1 J;exact @OK.noS I _ _ _ _ _ _ _ F _ _ G (O _ (fP G)).2 _ H hS
end
end Go.Vs
