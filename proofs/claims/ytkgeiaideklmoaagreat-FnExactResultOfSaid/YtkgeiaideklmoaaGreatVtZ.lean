/- A row that is written while its walk does not know it. -/
import Derived.Test.YtkgeiaideklmoaaGreatVtS
set_option linter.all false
set_option maxHeartbeats 8000000
namespace Go.Vs
section
variable [Envs]
variable {P:Program}{C:Ctx}{a:Act}{w:World}{S:Nat→Prop}{ρ:Name→Option Nat}{κ:Name→Nat}
theorem OK.mX {σ:St}{n m:Name} (J:n≠m) (I:bT m σ=true) (G:OK C σ.f a w S ρ κ):∃ρ' κ',OK C (mX n m σ).f a w S ρ' κ':=by
 have F:=dI I;obtain⟨ρ',κ',H⟩:=G.rename (n:=n) (m:=m) J F.1.1 F.1.2;refine⟨ρ',κ',?_⟩
 have e:(⟨fun u=>rn (nmF n m) (σ.f.s u),fun x=>if x=m then(σ.f.h n).map (rnB (nmF n m)) else if x=n then none else(σ.f.h x).map (rnB (nmF n m))⟩:FSt)=(Vs.mX n m σ).f:=by
  simp only[St.f,Vs.mX,FSt.mk.injEq];refine⟨funext fun u=>(mM _ (by simp[rn]) _ u).symm,funext fun x=>(aAI _ x F.1.1).symm⟩
 rw[e] at H;exact H
def ReL (σ τ:St):Prop:=LeL σ τ∨∃n m,n≠m∧bT m σ=true∧LeL (Vs.mX n m σ) τ
theorem OK.rel {σ τ:St} (F:OK C σ.f a w S ρ κ) (h:ReL σ τ):∃ρ' κ',OK C τ.f a w S ρ' κ':=by
 rcases h with h|⟨n,m,hn,hf,h⟩
 ·exact⟨ρ,κ,F.le h⟩
 ·obtain⟨ρ',κ',G⟩:=F.mX hn hf;exact⟨ρ',κ',G.le h⟩
theorem aN.introR {F:Nat→Array Oper→Option (List Nat)} (hb:iU P F) {X:Type} (H:X→St) (μ:X→Nat) (x0:X) {c:aF}{N:St→Prop}{E:sG→St→Prop}{σ:St}{tg:Tag (N,E)} (h0:LeL σ (H x0))
  (hr:∀x,wpc P C F c (fun σ'=>∃L,ReL σ' (H L)∧μ L<μ x) E (H x)):aN P C F c N E σ tg:=by
 show SemW P C F (.loop c) N E σ
 intro O Q a w S ρ κ I hN hE hR he;cases O
 case loop cx =>
  simp only[bF,aF.bare] at I;cases h1:bF P C.nt F cx with
  |none=>rw[h1] at I;cases I
  | some L =>
   rw[h1] at I;simp only[Option.map_some,Option.some.injEq,aF.loop.injEq] at I;subst I
   classical
   let G:Act→World→Prop:=fun a w=>∃x S ρ κ,OK C (H x).f a w S ρ κ
   let m:Act→World→Nat:=fun a w=>if h:∃n x,μ x=n∧∃S ρ κ,OK C (H x).f a w S ρ κ then(least _ h).choose else 0
   refine wp_loop G m ⟨x0,S,ρ,κ,he.le h0⟩ ?_;rintro a w hG
   have U:∃n x,μ x=n∧∃S ρ κ,OK C (H x).f a w S ρ κ:=by
    obtain⟨x,S,ρ,κ,h⟩:=hG;exact⟨μ x,x,rfl,S,ρ,κ,h⟩
   obtain⟨x,hx,S,ρ,κ,ha⟩:=(least _ U).choose_spec.1;have hm:m a w=μ x:=by simp only[m,dif_pos U];exact hx.symm
   refine sM hb c _ _ _ (hr x) cx _ a w S ρ κ h1 (fun a' w' hg=>?_) hE hR ha;obtain⟨σ',S',ρ',κ',⟨L,hd,hf⟩,Y⟩:=hg;obtain⟨ρ',κ',J⟩:=Y.rel hd;refine⟨⟨L,S',ρ',κ',J⟩,?_⟩;have M:∃n x,μ x=n∧∃S ρ κ,OK C (H x).f a' w' S ρ κ:=⟨μ L,L,rfl,S',ρ',κ',J⟩
   have:m a' w'≤μ L:=by
    simp only[m,dif_pos M];exact(least _ M).choose_spec.2 _ ⟨L,rfl,S',ρ',κ',J⟩
   omega
 all_goals(simp only[bF,aF.bare] at I;first|(cases I;done)|(split at I<;>simp at I)|(simp at I))
theorem aN.atR {F:Nat→Array Oper→Option (List Nat)} (G:iU P F) {X:Type} (M:X→List (Nat×AV)) (H:X→List (Name×Blk)) (μ:X→Nat) (J:X) {c:aF}{N:St→Prop}{E:sG→St→Prop}{σ:St}{U:Tag (N,E)}
  (L:LeL σ ⟨aL (M J) σ.s,aM (H J) σ.h⟩)
  (O:∀x,wpc P C F c (fun σ'=>∃I,ReL σ' ⟨aL (M I) σ.s,aM (H I) σ.h⟩∧μ I<μ x) E ⟨aL (M x) σ.s,aM (H x) σ.h⟩):aN P C F c N E σ U:=
 aN.introR G (fun x=>⟨aL (M x) σ.s,aM (H x) σ.h⟩) μ J L O
end
section
variable [Envs]
variable {P:Program}{C:Ctx}{a:Act}{w:World}{S:Nat→Prop}{ρ:Name→Option Nat}{κ:Name→Nat}
structure Hid (C:Ctx) (D:Nat→Prop) (x:AV) (v:Value):Prop where
 rd:RC D C.w0 x v
 lt:∀b,D b→b<C.w0.heap.size
 no:∀b,D b→¬C.S0 b∧¬C.Mut b
theorem Hid.same {D:Nat→Prop}{x:AV}{v:Value} (hh:Hid C D x v) {σ:FSt} (G:OK C σ a w S ρ κ) :
  (∀b,D b→w.heap[b]? = C.w0.heap[b]?)∧(∀b,D b→b<w.heap.size)∧(∀b,D b→¬S b)∧∀b,D b→∀n,(σ.h n).isSome→ρ n≠some b:=by
 refine⟨fun b F=>G.old b (hh.lt b F) (hh.no b F).2,fun b F=>Nat.lt_of_lt_of_le (hh.lt b F) G.size,fun b F J=>?_,fun b F n I H=>?_⟩
 ·have:=hh.lt b F;rcases G.Snew b J with h|h|h
  ·exact(hh.no b F).1 h
  ·omega
  ·exact(hh.no b F).2 h
 ·have:=hh.lt b F;rcases G.mine n b I H with h|h
  ·omega
  ·exact(hh.no b F).2 h
theorem Hid.now {D:Nat→Prop}{x:AV}{v:Value} (hh:Hid C D x v) {σ:FSt} (F:OK C σ a w S ρ κ):RC D w x v:=
 hh.rd.mono (fun _ h=>h) (fun b G=>(hh.same F).1 b G)
structure Later (C C':Ctx):Prop where
 nt:C'.nt=C.nt
 size:C.w0.heap.size≤C'.w0.heap.size
 old:∀b,b<C.w0.heap.size→¬C.Mut b→C'.w0.heap[b]? = C.w0.heap[b]?
 wr:∀b,C'.Mut b→C.w0.heap.size≤b∨C.Mut b
 s0:∀b,C.S0 b→C'.S0 b
 new:∀b,C'.S0 b→C.S0 b∨C.w0.heap.size≤b∨C.Mut b
 out:C'.w0.os=C.w0.os∧C'.w0.output=C.w0.output
 base:C'.ρ0=C.ρ0∧C'.κ0=C.κ0∧C'.h0=C.h0
theorem OK.back {C':Ctx} (F:Later C C') {σ:FSt} (h:OK C' σ a w S ρ κ):OK C σ a w S ρ κ where
 nt:=h.nt.trans F.nt
 defers:=h.defers
 slots:=h.slots
 hok:=h.hok
 size:=Nat.le_trans F.size h.size
 old b hb hm:=by
  rw[←F.old b hb hm];refine h.old b (Nat.lt_of_lt_of_le hb F.size) fun h'=>?_;rcases F.wr b h' with h''|h''
  ·omega
  ·exact hm h''
 mine n x h1 h2:=by
  rcases h.mine n x h1 h2 with h'|h'
  ·exact .inl (Nat.le_trans F.size h')
  ·exact F.wr x h'
 S0 b hb:=h.S0 b (F.s0 b hb)
 Snew b hb:=by
  rcases h.Snew b hb with h'|h'|h'
  ·exact F.new b h'
  ·exact .inr (.inl (Nat.le_trans F.size h'))
  ·exact .inr (F.wr b h')
 out:=⟨h.out.1.trans F.out.1,h.out.2.trans F.out.2⟩
 keep j b hb:=by rw[←F.base.1,←F.base.2.1,←F.base.2.2];exact h.keep j b hb
def Ctx.anew (C:Ctx) (w:World) (S:Nat→Prop) (h:Name→Option Blk) (ρ:Name→Option Nat):Ctx:=
 {C with w0:=w,S0:=S,Mut:=fun b=>∃n,(h n).isSome∧ρ n=some b}
theorem OK.anew {σ:FSt} (hok:OK C σ a w S ρ κ):OK (C.anew w S σ.h ρ) σ a w S ρ κ where
 nt:=hok.nt
 defers:=hok.defers
 slots:=hok.slots
 hok:=hok.hok
 size:=Nat.le_refl _
 old _ _ _:=rfl
 mine n x h1 h2:=.inr ⟨n,h1,h2⟩
 S0 _ h:=h
 Snew _ h:=.inl h
 out:=⟨rfl,rfl⟩
 keep:=hok.keep
theorem OK.later {σ:FSt} (F:OK C σ a w S ρ κ):Later C (C.anew w S σ.h ρ) where
 nt:=rfl
 size:=F.size
 old:=F.old
 wr b hb:=by obtain⟨n,G,h2⟩:=hb;exact F.mine n b G h2
 s0:=F.S0
 new:=F.Snew
 out:=F.out
 base:=⟨rfl,rfl,rfl⟩
theorem Later.trans {G H I:Ctx} (h:Later G H) (h':Later H I):Later G I where
 nt:=h'.nt.trans h.nt
 size:=Nat.le_trans h.size h'.size
 old b hb hm:=by
  rw[←h.old b hb hm];refine h'.old b (Nat.lt_of_lt_of_le hb h.size) fun F=>?_;rcases h.wr b F with hy|hy
  ·omega
  ·exact hm hy
 wr b hb:=by
  rcases h'.wr b hb with F|F
  ·exact .inl (Nat.le_trans h.size F)
  ·exact h.wr b F
 s0 b hb:=h'.s0 b (h.s0 b hb)
 new b hb:=by
  rcases h'.new b hb with F|F|F
  ·exact h.new b F
  ·exact .inr (.inl (Nat.le_trans h.size F))
  ·exact .inr (h.wr b F)
 out:=⟨h'.out.1.trans h.out.1,h'.out.2.trans h.out.2⟩
 base:=⟨h'.base.1.trans h.base.1,h'.base.2.1.trans h.base.2.1,h'.base.2.2.trans h.base.2.2⟩
theorem OK.wrote {σ:FSt}{D:Nat→Prop}{x:AV}{v:Value} (hh:Hid C D x v) (F:OK C σ a w S ρ κ) {w':World} (hs:w.heap.size≤w'.heap.size)
  (L:∀b,b<w.heap.size→¬D b→w'.heap[b]? = w.heap[b]?) (ho:w'.os=w.os∧w'.output=w.output) :
  OK (C.anew w' S σ.h ρ) σ a w' S ρ κ:=by
 obtain⟨_,_,U,Y⟩:=hh.same F;have H:∀b,S b→w'.heap[b]? = w.heap[b]?:=fun b G=>L b (F.hok.dom b G) fun I=>U b I G;have hN:∀n,(σ.h n).isSome→∀y,ρ n=some y→w'.heap[y]? = w.heap[y]?:=fun n J y M=>L y (F.hok.lt J M) fun I=>Y y I n J M;refine⟨F.nt,F.defers,fun t=>?_,⟨fun n b G=>?_,F.hok.inj,fun b G=>Nat.lt_of_lt_of_le (F.hok.dom b G) hs,F.hok.env.mono (fun _ h=>h) H⟩,Nat.le_refl _,fun _ _ _=>rfl,fun n x O h2=>.inr ⟨n,O,h2⟩,fun _ h=>h,fun _ h=>.inl h,⟨rfl,rfl⟩,F.keep⟩
 ·exact(F.slots t).mono (fun _ h=>h) H fun m _=>fC.refl _ _ _ _
 ·exact(F.hok.blk n b G).mono (fun _ h=>h) (fun _ _ h=>h) H (hN n (by simp[G])) rfl rfl fun m _=>fC.refl _ _ _ _
theorem aAE {ρ:Name→Option Nat}{b:Nat}:¬aAu ρ [] b:=by
 intro h;simp[aAu] at h
end
section
variable [Envs]
variable {P:Program}{C:Ctx}{a:Act}{w:World}{S:Nat→Prop}{ρ:Name→Option Nat}{κ:Name→Nat}
theorem lG {ops:Array Oper}{Q:Exit→Act→World→Prop}{K:St→Prop}{e m:Nat} (L:∀(σ:St) (a:Act) (w:World) (S:Nat→Prop) (ρ:Name→Option Nat) (κ:Name→Nat),K σ→OK C σ.f a w S ρ κ→wpOps P ops Q (List.range' e m) a w) :
  ∀(F:List aJ) (k:Nat),k+F.length=e→(∀j ao,F[j]? = some ao→∃o,ops[k+j]? = some o∧mU P C.nt ops o=some ao.bare)→
  ∀(σ:St) (a:Act) (w:World) (S:Nat→Prop) (ρ:Name→Option Nat) (κ:Name→Nat),vc P K F σ→OK C σ.f a w S ρ κ→wpOps P ops Q (List.range' k (F.length+m)) a w
 | [],k,hk,_,σ,a,w,S,ρ,κ,hv,hok=>by
  simp only[List.length_nil,Nat.add_zero,Nat.zero_add] at hk⊢;subst hk;exact L σ a w S ρ κ hv hok
 | ao::r,k,hk,hs,σ,a,w,S,ρ,κ,hv,hok=>by
  obtain⟨o,ho,hc⟩:=hs 0 ao (by simp);simp only[Nat.add_zero] at ho;obtain⟨h1,h2,O,h4⟩:=iT hc;rw[show(ao::r).length+m=(r.length+m)+1 by simp only[List.length_cons];omega,List.range'_succ,wpOps_cons]
  have ih:=lG L r (k+1) (by simp only[List.length_cons] at hk;omega) (fun j M hj=>by
    obtain⟨o',I,J⟩:=hs (j+1) M (by simpa using hj);exact⟨o',by rw[show k+1+j=k+(j+1) by omega];exact I,J⟩)
  have go:bG P ao.dst σ (vc P K r) ao.op→o.wp P a w (wpOps P ops Q (List.range' (k+1) (r.length+m))) Q:=fun Y =>
   Oper.wp_mono (fun a' w' ⟨σ',S',ρ',κ',L,hok'⟩=>ih σ' a' w' S' ρ' κ' L hok') (uO (P:=P) h1 hok O (by rw[h2];exact Y))
  unfold wpOp;rw[ho];simp only[vc] at hv;rcases h4 with⟨I,J⟩|⟨j,G,t,I,J,g3⟩
  ·rw[J] at hv;have:Region.wanted o (yielded ops a.tmps)=true:=by simp[Region.wanted,I]
   simp only[this,if_true];exact .inl (go hv)
  ·rw[J] at hv;simp only at hv;split at hv
   ·rename_i b U;have hw:=xB hok I g3 U;simp only[hw];by_cases H:b=G
    ·simp only[H,beq_self_eq_true,if_true];exact .inl (go ((jR.1 hv).1 H))
    ·have:(b==G)=false:=by simpa using H
     simp only[this,Bool.false_eq_true,if_false];have hn:b = !G:=by cases b<;>cases G<;>simp_all
     refine ih _ _ _ S ρ κ ((jR.1 hv).2 hn) ?_;have:=hok.put (x:=.v undef) (v:=undef) (.clo (.v _)) O;rw[h2] at this⊢;simpa[St.f,jX,undef] using this
   ·rename_i cs U;have hw:=xA hok I g3 U;simp only[hw,Bool.false_eq_true,if_false];refine ih _ _ _ S ρ κ hv ?_;have:=hok.put (x:=.v undef) (v:=undef) (.clo (.v _)) O;rw[h2] at this⊢;simpa[St.f,jX,undef] using this
   ·exact hv.elim
theorem aAO {b:Builtin}{ts:List TypeId}{args l:List Operand}{f:Operand} (h:rY P b ts args=some (.call f l [])):False:=by
 unfold rY at h
 repeat' split at h
 all_goals simp at h
theorem aHR {op:Op}{f:FuncId}{args:List Operand} (h:comp P op=some (.call (.func f) args [])):∃c:Call,op=.call c∧c.callee=.value (.func f)∧args=c.args.toList:=by
 cases op
 case call c =>
  simp only[comp] at h;split at h
  ·exact(aAO h).elim
  ·rename_i g F;split at h
   ·split at h<;>simp at h
   ·simp only[Option.some.injEq,AOp.call.injEq,Operand.func.injEq,and_true] at h;exact⟨c,rfl,by rw[F,h.1],h.2.symm⟩
  ·rename_i g _ F;simp only[Option.some.injEq,AOp.call.injEq,and_true] at h;exact⟨c,rfl,by rw[F,h.1],h.2.symm⟩
  ·cases h
 all_goals(unfold comp at h;repeat' split at h)
 all_goals first|contradiction|(simp at h;done)|(simp[Option.bind_eq_some_iff] at h;done)
theorem amap {α β:Type} (g:α→β) (l:Array α):l.map g ++ #[]=(l.toList.map g).toArray:=by cases l;simp
theorem aDB {ops:Array Oper}{σ:FSt}{o:Oper}{ao:aJ}{f:FuncId}{args:List Operand}{bor:List Nat} (hc:mU P C.nt ops o=some ao.bare) (I:ao.op=.call (.func f) args bor) (J:OK C σ a w S ρ κ) (hb:mW P f)
  {F:Act→World→Prop}{Q:Exit→Act→World→Prop} (h:Calls P f (args.map a.eval).toArray w fun e w'=>∃u,e=.returned u∧F (a.put ao.dst u) w'):o.wp P a w F Q:=by
 obtain⟨U,h2,_,_⟩:=iT hc;rw[I] at U;obtain⟨c,L,G,rfl⟩:=aHR U;obtain⟨fn,b,Y,g2,g3⟩:=hb;have hf:=J.ev (.func f);obtain⟨vs,M,hl,_⟩:=aB1 hf
 have O:vs=#[]:=by
  apply Array.eq_empty_of_size_eq_zero;simpa using hl.symm
 subst O
 have H:(execOp a.eval o).run P w=.ok (.enter f (c.args.map a.eval ++ #[])) w:=by
  simp[execOp,L,resolve,G,M,Deferred.ofValue,invoke,callFunc,Y,g2,g3]
 have e:=amap a.eval c.args;unfold Oper.wp;rw[H,e];simp only[Oper.upon];refine h.mono ?_;rintro e' w' ⟨u,rfl,hn⟩;rw[h2];exact hn
end
section
variable [Envs]
variable {P:Program}{C:Ctx}{a:Act}{w:World}{S:Nat→Prop}{ρ:Name→Option Nat}{κ:Name→Nat}{nt:Nat}{dr:Nat→Array Oper→Option (List Nat)}{Q:Exit→Act→World→Prop}
def zB (nt:Nat) (dr:Nat→Array Oper→Option (List Nat)):Code→Bool
 |.region _ ops draw=>!draw||(match dr nt ops with|some []=>false|_=>true)
 |.seq x y=>zB nt dr x&&zB nt dr y
 |.cond _ x y=>zB nt dr x&&zB nt dr y
 |.block _ x=>zB nt dr x
 |.loop x=>zB nt dr x
 |_=>true
def At (P:Program) (nt:Nat) (dr:Nat→Array Oper→Option (List Nat)) (ac:aF) (Q:Exit→Act→World→Prop) (a:Act) (w:World):Prop:=
 ∀c:Code,bF P nt dr c=some ac.bare→zB nt dr c=true→c.wp P Q a w
theorem At.mono {ac:aF}{F:Exit→Act→World→Prop} (h:At P nt dr ac Q a w) (H:∀e a w,Q e a w→F e a w):At P nt dr ac F a w:=
 fun c G I=>Code.wp_mono H (h c G I)
theorem At.seq {x y:aF} (h:At P nt dr x (Exit.then (At P nt dr y Q) Q) a w):At P nt dr (.seq x y) Q a w:=by
 intro c F G;cases c
 case seq cx cy =>
  simp only[bF,aF.bare] at F;split at F
  ·rename_i J L I h2;simp only[Option.some.injEq,aF.seq.injEq] at F;obtain⟨rfl,rfl⟩:=F;simp only[zB,Bool.and_eq_true] at G;refine wp_seq (Code.wp_mono (fun e a w H=>?_) (h cx I G.1));cases e<;>first|exact H cy h2 G.2|exact H
  ·cases F
 all_goals(simp only[bF,aF.bare] at F;first|(cases F;done)|(split at F<;>simp at F)|(simp at F))
theorem At.block {x:aF}{H:Nat} (h:At P nt dr x (Exit.inBlock H Q) a w):At P nt dr (.block H x) Q a w:=by
 intro c F G;cases c
 case block cid cx =>
  simp only[bF,aF.bare] at F;cases h1:bF P nt dr cx with
  |none=>rw[h1] at F;cases F
  | some x' =>
   rw[h1] at F;simp only[Option.map_some,Option.some.injEq,aF.block.injEq] at F;obtain⟨rfl,rfl⟩:=F;exact wp_block (h cx h1 (by simpa[zB] using G))
 all_goals(simp only[bF,aF.bare] at F;first|(cases F;done)|(split at F<;>simp at F)|(simp at F))
theorem At.exit {G:Nat} (h:Q (.exit G) a w):At P nt dr (.exit G) Q a w:=by
 intro c F H;cases c
 case exit cid =>
  simp only[bF,aF.bare,Option.some.injEq,aF.exit.injEq] at F;subst F;exact wp_exit h
 all_goals(simp only[bF,aF.bare] at F;first|(cases F;done)|(split at F<;>simp at F)|(simp at F))
theorem At.skip (h:Q .normal a w):At P nt dr .skip Q a w:=by
 intro c F G;cases c<;>simp[bF,aF.bare] at F
 case skip=>exact wp_skip h
 all_goals(first|(split at F<;>simp at F)|skip)
theorem At.ret (h:Q .ret a w):At P nt dr .ret Q a w:=by
 intro c F G;cases c
 case ret=>exact wp_ret h
 all_goals(simp only[bF,aF.bare] at F;first|(cases F;done)|(split at F<;>simp at F)|(simp at F))
theorem At.cond {x y:aF}{H:Operand}{t:Bool} (J:a.eval H=.bool t) (M:t=true→At P nt dr x Q a w) (L:t=false→At P nt dr y Q a w):At P nt dr (.cond H x y) Q a w:=by
 intro c F G;cases c
 case cond co' cx cy =>
  simp only[bF,aF.bare] at F;split at F
  ·rename_i O U I h2;simp only[Option.some.injEq,aF.cond.injEq] at F;obtain⟨rfl,rfl,rfl⟩:=F;simp only[zB,Bool.and_eq_true] at G;exact wp_cond_split J (fun h=>M h cx I G.1) fun h=>L h cy h2 G.2
  ·cases F
 all_goals(simp only[bF,aF.bare] at F;first|(cases F;done)|(split at F<;>simp at F)|(simp at F))
theorem At.loop {x:aF} (I:Nat→Act→World→Prop) (hr:∀n a w,I n a w→At P nt dr x (Exit.then (fun a w=>∃m,m<n∧I m a w) Q) a w) {n:Nat} (U:I n a w):At P nt dr (.loop x) Q a w:=by
 intro c F L;cases c
 case loop cx =>
  simp only[bF,aF.bare] at F;cases h1:bF P nt dr cx with
  |none=>rw[h1] at F;cases F
  | some x' =>
   rw[h1] at F;simp only[Option.map_some,Option.some.injEq,aF.loop.injEq] at F;subst F
   classical
   let m:Act→World→Nat:=fun a w=>if h:∃n,I n a w then(least _ h).choose else 0
   refine wp_loop (fun a w=>∃n,I n a w) m ⟨n,U⟩ ?_;rintro a w H;have Y:=(least _ H).choose_spec.1;have hm:m a w=(least _ H).choose:=by simp only[m,dif_pos H]
   refine Code.wp_mono (fun e M w' O=>?_) (hr _ a w Y cx h1 (by simpa[zB] using L));cases e
   case normal =>
    obtain⟨k,hk,J⟩:=O;have G:∃n,I n M w':=⟨k,J⟩;refine⟨G,?_⟩
    have:m M w'≤k:=by
     simp only[m,dif_pos G];exact(least _ G).choose_spec.2 _ J
    rw[hm];omega
   all_goals exact O
 all_goals(simp only[bF,aF.bare] at F;first|(cases F;done)|(split at F<;>simp at F)|(simp at F))
theorem At.fw {ac:aF}{N:St→Prop}{E:sG→St→Prop}{σ:St} (F:iU P dr) (H:OK C σ.f a w S ρ κ) (G:C.nt=nt) (O:wpc P C dr ac N E σ)
  (J:∀a w,cK C N a w→Q .normal a w) (I:∀i a w,cK C (E (.exit i)) a w→Q (.exit i) a w) (L:∀a w,cK C (E .ret) a w→Q .ret a w):At P nt dr ac Q a w:=
 fun c M _=>sM F ac N E σ O c Q a w S ρ κ (by rw[G];exact M) J I L H
def aGa (P:Program) (nt:Nat) (post:List aJ) (Q:Exit→Act→World→Prop) (a:Act) (w:World):Prop:=
 ∃(C:Ctx) (σ:St) (S:Nat→Prop) (ρ:Name→Option Nat) (κ:Name→Nat) (K:St→Prop),C.nt=nt∧OK C σ.f a w S ρ κ∧vc P K post σ∧∀a w,cK C K a w→Q .normal a w
theorem At.region {pre post:List aJ}{o:aJ}{out:List Nat}{σ:St} (he:OK C σ.f a w S ρ κ) (hb:C.nt=nt) (hg:o.guard=none)
  (hv:vc P (fun σ1=>∀(a:Act) (w:World) (S:Nat→Prop) (ρ:Name→Option Nat) (κ:Name→Nat) (op:Oper) (ops:Array Oper),OK C σ1.f a w S ρ κ→mU P nt ops op=some o.bare→op.wp P a w (aGa P nt post Q) Q) pre σ) :
  At P nt dr (.region (pre++o::post) out []) Q a w:=by
 intro c F hf;cases c
 case region id ops draw =>
  simp only[bF,aF.bare] at F;split at F
  ·rename_i hn G;cases ho:aAQ P nt ops ops.toList with
   |none=>rw[ho] at F;cases F
   | some l =>
    rw[ho] at F;simp only[Option.map_some,Option.some.injEq,aF.region.injEq,true_and] at F;obtain⟨hl,Y⟩:=F;subst hl;subst Y;cases draw with
    | true =>
     have hd:dr nt ops=some []:=by simpa using G
     simp[zB,hd] at hf
    | false =>
     obtain⟨g1,g2⟩:=kM ho
     have hs:∀(j:Nat) (ao:aJ),(pre++o::post)[j]? = some ao→∃op,ops[j]? = some op∧mU P nt ops op=some ao.bare:=fun j ao I=>by
      obtain⟨op,O,U⟩:=g2 j ao I;exact⟨op,by simpa using O,U⟩
     refine wp_region ?_
     have J:ops.size=pre.length+(post.length+1):=by
      have:ops.size=(pre++o::post).length:=by simpa using g1
      rw[this];simp
     rw[List.range_eq_range',J];refine lG (C:=C) (K:=_) (e:=pre.length) (fun σ1 a w S ρ κ hK L=>?_) pre 0 (by omega) (fun j ao I=>?_) σ a w S ρ κ hv he
     ·obtain⟨op,h1,h2⟩:=hs pre.length o (by simp);obtain⟨_,_,_,h4⟩:=iT h2
      have ha:op.guard=none:=by
       rcases h4 with⟨h,_⟩|⟨j,hm,t,_,h,_⟩
       ·exact h
       ·rw[hg] at h;cases h
      rw[List.range'_succ,wpOps_cons];unfold wpOp;rw[h1];have:Region.wanted op (yielded ops a.tmps)=true:=by simp[Region.wanted,ha]
      simp only[this,if_true];refine .inl (Oper.wp_mono (fun a' w' hr=>?_) (hK a w S ρ κ op ops L h2));obtain⟨C',σ',S',ρ',κ',K',e1,e2,e3,e4⟩:=hr;subst e1
      have:=lG (C:=C') (P:=P) (ops:=ops) (Q:=Q) (K:=K') (e:=pre.length+1+post.length) (m:=0) (fun σ2 a2 w2 S2 ρ2 κ2 hk M=>by
        simp only[List.range'_zero];exact e4 a2 w2 ⟨σ2,S2,ρ2,κ2,hk,M⟩) post (pre.length+1) rfl (fun j ao I=>by
        obtain ⟨H,O,U⟩:=hs (pre.length+1+j) ao (by
          rw[List.getElem?_append_right (by omega),show pre.length+1+j-pre.length=j+1 by omega];simpa using I)
        exact⟨H,O,U⟩) σ' a' w' S' ρ' κ' e3 e2
      simpa using this
     ·obtain⟨H,O,U⟩:=hs j ao (by
        have:j<pre.length:=by
          rcases Nat.lt_or_ge j pre.length with h|h
          · exact h
          · simp[List.getElem?_eq_none h] at I
        rw[List.getElem?_append_left this];exact I)
      exact⟨H,by simpa using O,by rw[hb];exact U⟩
  ·cases F
 all_goals(simp only[bF,aF.bare] at F;first|(cases F;done)|(split at F<;>simp at F)|(simp at F))
theorem At.halt {pre post:List aJ}{out:List Nat}{σ:St} (hb:OK C σ.f a w S ρ κ) (ha:C.nt=nt)
  (hv:vc P (fun σ1=>∀(a:Act) (w:World) (S:Nat→Prop) (ρ:Name→Option Nat) (κ:Name→Nat),OK C σ1.f a w S ρ κ→aGa P nt post Q a w) pre σ) :
  At P nt dr (.region (pre++post) out []) Q a w:=by
 intro c F he;cases c
 case region id ops draw =>
  simp only[bF,aF.bare] at F;split at F
  ·rename_i hf G;cases ho:aAQ P nt ops ops.toList with
   |none=>rw[ho] at F;cases F
   | some l =>
    rw[ho] at F;simp only[Option.map_some,Option.some.injEq,aF.region.injEq,true_and] at F;obtain⟨hl,Y⟩:=F;subst hl;subst Y;cases draw with
    | true =>
     have hd:dr nt ops=some []:=by simpa using G
     simp[zB,hd] at he
    | false =>
     obtain⟨g1,g2⟩:=kM ho
     have hs:∀(j:Nat) (ao:aJ),(pre++post)[j]? = some ao→∃op,ops[j]? = some op∧mU P nt ops op=some ao.bare:=fun j ao I=>by
      obtain⟨op,O,U⟩:=g2 j ao I;exact⟨op,by simpa using O,U⟩
     refine wp_region ?_
     have J:ops.size=pre.length+post.length:=by
      have:ops.size=(pre++post).length:=by simpa using g1
      rw[this];simp
     rw[List.range_eq_range',J];refine lG (C:=C) (K:=_) (e:=pre.length) (fun σ1 a w S ρ κ hK L=>?_) pre 0 (by omega) (fun j ao I=>?_) σ a w S ρ κ hv hb
     ·obtain⟨C',σ',S',ρ',κ',K',e1,e2,e3,e4⟩:=hK a w S ρ κ L;subst e1
      have:=lG (C:=C') (P:=P) (ops:=ops) (Q:=Q) (K:=K') (e:=pre.length+post.length) (m:=0) (fun σ2 a2 w2 S2 ρ2 κ2 hk M=>by
        simp only[List.range'_zero];exact e4 a2 w2 ⟨σ2,S2,ρ2,κ2,hk,M⟩) post pre.length rfl (fun j ao I=>by
        obtain ⟨H,O,U⟩:=hs (pre.length+j) ao (by
          rw[List.getElem?_append_right (by omega),show pre.length+j-pre.length=j by omega];exact I)
        exact⟨H,O,U⟩) σ' a w S' ρ' κ' e3 e2
      simpa using this
     ·obtain⟨H,O,U⟩:=hs j ao (by
        have:j<pre.length:=by
          rcases Nat.lt_or_ge j pre.length with h|h
          · exact h
          · simp[List.getElem?_eq_none h] at I
        rw[List.getElem?_append_left this];exact I)
      exact⟨H,by simpa using O,by rw[ha];exact U⟩
  ·cases F
 all_goals(simp only[bF,aF.bare] at F;first|(cases F;done)|(split at F<;>simp at F)|(simp at F))
theorem aAp {f:FuncId}{fn:Func}{F:Code}{ac:aF} (hf:P.funcs[f]? = some fn) (H:fn.body=some F) (U:bF P fn.ntmps dr F=some ac.bare) (hz:zB fn.ntmps dr F=true) {args:List AV} (ha:args.length≤fn.ntmps)
  {vs:Array Value} (O:∀b,S b→b<w.heap.size) (Y:Env S w) (hd:vs.size=args.length) (G:∀j,j<args.length→RC S w (args.getD j .junk) (vs.getD j undef)) (M:Nat→Prop) {R:Ending→World→Prop}
  (h : ∀a,OK ⟨fn.ntmps,w,S,M,fun _=>none,fun _=>0,fun _=>none⟩ (⟨ini 0 args,[]⟩:St).f a w S (fun _=>none) (fun _=>0)→
    At P fn.ntmps dr ac (fun e J w'=>(e=.ret∨e=.normal)∧J.defers=[]∧∃v,(results fn J.tmps).run P w'=.ok v w'∧R (.returned v) w') a w):Calls P f vs w R:=by
 refine calls_of_wp hf H ?_;refine Code.wp_mono (fun e J w' hq=>?_) (h _ ?_ F U hz)
 ·obtain⟨rfl|rfl,I,v,h2,L⟩:=hq
  ·exact⟨I,v,h2,L⟩
  ·exact⟨I,v,h2,L⟩
 ·refine⟨?_,rfl,fun t=>?_,⟨fun n b H=>?_,fun n m y hn _ _ _=>?_,O,Y⟩,Nat.le_refl _,fun _ _ _=>rfl,fun n x I h2=>?_,fun _ h=>h,fun b H=>.inl H,⟨rfl,rfl⟩,fun j b H=>?_⟩
  ·simp only[Array.size_append,Array.size_replicate];omega
  ·simp only[St.f,z8,Nat.zero_le,true_and,Nat.zero_add,Nat.sub_zero];split
   ·rename_i ht
    have e:(vs++Array.replicate (fn.ntmps-vs.size) undef).getD t undef=vs.getD t undef:=by
     have I:t<vs.size:=by omega
     simp[Array.getElem?_append,I]
    rw[e];exact .clo (G t ht)
   ·exact .junk _
  ·simp[St.f,aB] at H
  ·simp[St.f,aB] at hn
  ·simp[St.f,aB] at I
  ·simp[St.f,aB] at H
end
section
variable [Envs]
variable {P:Program}{C:Ctx}{a:Act}{w:World}{S:Nat→Prop}{ρ:Name→Option Nat}{κ:Name→Nat}
theorem OK.know {σ:FSt} (F:OK C σ a w S ρ κ) {t:Nat}{x:AV} (H:RV S w ρ κ σ.h x (a.tmps.getD t undef)):OK C ⟨upd σ.s (some t) x,σ.h⟩ a w S ρ κ:=by
 refine{F with slots:=fun u=>?_};simp only[upd];by_cases G:u=t
 ·subst G;simp only[if_true];exact H
 ·simp only[G,if_false];exact F.slots u
theorem OK.expose {σ:FSt} (M:OK C σ a w S ρ κ) {n:Name}{k:Nat}{rows:List (List AV)}{z:Bool} (hb:σ.h n=some (.arr k rows z)) (I:∀r,r∈rows→jQ r=true) {v:Value} (hv:RV S w ρ κ σ.h (.loc n 0 rows.length) v) :
  RC (fun b=>ρ n=some b) w (.sl k rows) v:=by
 have hl:=iP hv k rows z hb;obtain⟨_,base,cap,rfl,h1,h2,h3,_⟩:=hl;obtain⟨O,G⟩:=M.hok.blk n _ hb;rcases G with⟨hn,rfl⟩|⟨x,cs,T,fr,U,g2,g3,_,_,g5,g6,Y⟩
 ·refine .sl k [] base cap 0 0 (fun _=>undef) (by simp) (by simp) (by simp) (by simp) (by simp) ⟨by omega,h2⟩
 ·refine .sl k rows base cap x 0 (fun i=>cs.getD i undef) (fun L=>?_) (fun i j hi H=>?_) (fun i j hi H=>(Y i j hi H).1) (fun i j hi H=>?_) O ⟨by omega,h2⟩
  ·obtain⟨y,hy,F⟩:=h3 (List.length_pos_iff.2 L);rw[U] at hy;obtain rfl:=Option.some.inj hy;exact⟨by rw[F];simp,U⟩
  ·have J:i*k+j<cs.size:=by
    have:i*k+k≤rows.length*k:=by rw[←Nat.succ_mul];exact Nat.mul_le_mul_right k hi
    omega
   simp[World.cell?,g2,J]
  ·refine((Y i j hi H).2).flat ?_
   have hm:rows.getD i []∈rows:=by
    rw[List.getD_eq_getElem?_getD,List.getElem?_eq_getElem hi];exact List.getElem_mem _
   exact dA (I _ hm)
theorem OK.hide {σ:St} (F:OK C σ.f a w S ρ κ) {n:Name}{k:Nat}{rows:List (List AV)} (I:σ.f.h n=some (.arr k rows false)) (J:∀r,r∈rows→jQ r=true) {v:Value} (hv:RV S w ρ κ σ.f.h (.loc n 0 rows.length) v) :
  OK (C.anew w S (aW n σ).f.h ρ) (aW n σ).f a w S ρ κ∧Hid (C.anew w S (aW n σ).f.h ρ) (fun b=>ρ n=some b) (.sl k rows) v∧Later C (C.anew w S (aW n σ).f.h ρ):=by
 have M:OK C (aW n σ).f a w S ρ κ:=by rw[nX];exact F.kill n
 refine⟨M.anew,⟨F.expose I J hv,fun b h=>F.hok.lt (n:=n) (by rw[I];rfl) h,fun b h=>⟨fun L=>?_,fun Y=>?_⟩⟩,M.later⟩
 ·obtain⟨_,⟨hn,_⟩|⟨x,cs,T,fr,O,g2,g3,U,_⟩⟩:=F.hok.blk n _ I
  ·rw[hn] at h;cases h
  ·rw[O] at h;obtain rfl:=Option.some.inj h;exact U rfl L
 ·obtain⟨m,G,h2⟩:=Y
  have H:m≠n:=by
   rintro rfl;rw[nX] at G;simp[nA] at G
  have L:(σ.f.h m).isSome:=by
   rw[nX] at G;simp only[nA,H,if_false] at G;cases hx:σ.f.h m with
   |none=>rw[hx] at G;simp at G
   |some b=>rfl
  exact H (F.hok.inj m n b L (by rw[I];rfl) h2 h)
theorem Hid.later {C':Ctx}{D:Nat→Prop}{x:AV}{v:Value} (hh:Hid C D x v) {σ:FSt} (F:OK C σ a w S ρ κ) (H:C'.w0=w) (U:∀b,C'.S0 b→S b) (h2:∀b,C'.Mut b→∃n,(σ.h n).isSome∧ρ n=some b):Hid C' D x v:=by
 obtain⟨g1,L,M,O⟩:=hh.same F;refine⟨by rw[H];exact hh.now F,fun b G=>by rw[H];exact L b G,fun b G=>⟨fun hs=>M b G (U b hs),fun Y=>?_⟩⟩;obtain⟨n,I,J⟩:=h2 b Y;exact O b G n I J
variable {nt:Nat}{dr:Nat→Array Oper→Option (List Nat)}{Q:Exit→Act→World→Prop}
theorem cK.le {τ:St} (h:cK C (fun σ=>LeL σ τ) a w):∃S ρ κ,OK C τ.f a w S ρ κ:=by
 obtain⟨σ,S,ρ,κ,F,h2⟩:=h;exact⟨S,ρ,κ,h2.le F⟩
theorem cK.no (h:cK C (fun _=>False) a w):False:=by
 obtain⟨_,_,_,_,h,_⟩:=h;exact h
theorem At.step {x y:aF}{σ:St} (τ:St) (G:iU P dr) (I:OK C σ.f a w S ρ κ) (H:C.nt=nt) (L:wpc P C dr x (fun σ'=>LeL σ' τ) (fun _ _=>False) σ)
  (h:∀(a:Act) (w:World) (S:Nat→Prop) (ρ:Name→Option Nat) (κ:Name→Nat),OK C τ.f a w S ρ κ→At P nt dr y Q a w):At P nt dr (.seq x y) Q a w:=
 At.seq (At.fw G I H L (fun a w F=>by obtain⟨S,ρ,κ,J⟩:=F.le;exact h a w S ρ κ J) (fun i a w F=>F.no.elim) (fun a w F=>F.no.elim))
end
section
variable [Envs]
variable {P:Program}{C:Ctx}{a:Act}{w:World}{S:Nat→Prop}{ρ:Name→Option Nat}{κ:Name→Nat}
theorem OK.graft {σ:FSt} (J:OK C σ a w S ρ κ) {n:Name}{ss:List Value}{xs:List AV}{z:Bool} (hb:σ.h n=some (.arr 1 (ss.map fun s=>[AV.v s]) z)) {D:Nat→Prop} (hh:Hid C D (.tup xs) (.tuple ss.toArray)) {v:Value} (hv:RV S w ρ κ σ.h (.loc n 0 ss.length) v) :
  RC (fun b=>D b∨ρ n=some b) w (.sl 1 (xs.map fun x=>[x])) v:=by
 have hn:=hh.now J
 obtain ⟨L,hr⟩:xs.length=ss.length∧∀j,j<xs.length→RC D w (xs.getD j .junk) (ss.toArray.getD j undef):=by
  cases hn with
  |tup _ _ L hr=>exact⟨by simpa using L,hr⟩
 have O:=iP hv 1 _ z hb;obtain⟨_,base,cap,rfl,h1,h2,h3,_⟩:=O;obtain⟨hd,G⟩:=J.hok.blk n _ hb;have e:ss.length=(xs.map fun x=>[x]).length:=by simp[L]
 rcases G with⟨hn,I⟩|⟨x,cs,T,fr,g1,g2,g3,_,_,g5,g6,g7⟩
 ·have:ss=[]:=by simpa using I
  subst this;have:xs=[]:=by simpa using L
  subst this;refine .sl 1 [] base cap 0 0 (fun _=>undef) (by simp) (by simp) (by simp) (by simp) (by simp) ⟨by omega,h2⟩
 ·rw[e];have ha:(xs.map fun x=>[x]).length=ss.length:=e.symm;have hc:(ss.map fun s=>[AV.v s]).length=ss.length:=by simp
  refine .sl 1 _ base cap x 0 (fun i=>cs.getD i undef) (fun Y=>?_) (fun i j hi M=>?_) (fun i j hi M=>(g7 i j (by omega) M).1) (fun i j hi M=>?_) (fun i hi=>?_) ⟨by omega,h2⟩
  ·have:0<ss.length:=by have:=List.length_pos_iff.2 Y;omega
   obtain⟨y,hy,F⟩:=h3 (by omega);rw[g1] at hy;obtain rfl:=Option.some.inj hy;exact⟨by simpa using F,.inr g1⟩
  ·have U:i+j<cs.size:=by omega
   simp[World.cell?,g2,U]
  ·have H:i<ss.length:=by omega
   obtain rfl:j=0:=by omega
   have:=(g7 i 0 (by omega) (by omega)).2;have e1:((ss.map fun s=>[AV.v s]).getD i []).getD 0 .junk=.v ss[i]:=by simp[H]
   rw[e1] at this;rw[bM (ρ:=ρ) (κ:=κ) (h:=σ.h) (.clo this)]
   have e2:((xs.map fun x=>[x]).getD i []).getD 0 .junk=xs.getD i .junk:=by
    have:i<xs.length:=by omega
    simp[this]
   rw[e2];have:=hr i (by omega);have e3:ss.toArray.getD i undef=ss[i]:=by simp[H]
   rw[e3] at this;exact this.mono (fun _ h=>.inl h) fun _ _=>rfl
  ·have:i<xs.length:=by omega
   simp[this]
structure Own (S:Nat→Prop) (w:World) (x:Option Nat) (c:Nat) (k:Nat) (rows:List (List AV)) (v:Value):Prop where
 loc:wY (fun _=>x) (fun _=>c) (fun _=>some (.arr k rows false)) (.b 0) 0 rows.length v
 blk:vJ S w (fun _=>x) (fun _=>c) (fun _=>some (.arr k rows false)) (.b 0) (.arr k rows false)
 fl:∀r,r∈rows→jQ r=true
theorem OK.own {σ:FSt} (G:OK C σ a w S ρ κ) {n:Name}{k:Nat}{rows:List (List AV)} (H:σ.h n=some (.arr k rows false)) (F:∀r,r∈rows→jQ r=true) {v:Value} (J:RV S w ρ κ σ.h (.loc n 0 rows.length) v) :
  Own S w (ρ n) (κ n) k rows v:=by
 refine⟨fun L M O I=>?_,G.hok.blk n _ H,F⟩;obtain⟨rfl,rfl,rfl⟩:k=L∧rows=M∧false=O:=by simpa using I
 exact iP J k rows false H
theorem Own.mono {S':Nat→Prop}{w':World}{x:Option Nat}{c k:Nat}{rows:List (List AV)}{v:Value} (h:Own S w x c k rows v) (I:∀b,x=some b→¬S' b) (L:∀b,x=some b→w'.heap[b]? = w.heap[b]?):Own S' w' x c k rows v:=by
 refine⟨h.loc,?_,h.fl⟩;obtain⟨J,G⟩:=h.blk;refine⟨J,?_⟩;rcases G with G|⟨y,cs,T,fr,g1,g2,g3,g4,g4',g5,g6,g7⟩
 ·exact .inl G
 ·have F:x=some y:=g1;refine .inr ⟨y,cs,T,fr,g1,by rw[L y F];exact g2,g3,fun _=>I y F,fun h=>(by cases h),g5,g6,fun i j hi H=>⟨(g7 i j hi H).1,?_⟩⟩;refine RC.mono (S:=fun _=>False) (w:=w) (fun _ h=>h.elim) (fun _ h=>h.elim) (((g7 i j hi H).2).flat (dA (h.fl _ ?_)));rw[List.getD_eq_getElem?_getD,List.getElem?_eq_getElem hi];exact List.getElem_mem _
structure pM (S:Nat→Prop) (w:World) (k:Nat) (ls:List (List (List AV))) (ss:List Value) (xs:Nat→Option Nat) (cs:Nat→Nat):Prop where
 len:ls.length=ss.length
 row:∀i,i<ss.length→Own S w (xs i) (cs i) k (ls.getD i []) (ss.getD i undef)
 dif:∀i j b,i<ss.length→j<ss.length→xs i=some b→xs j=some b→i=j
theorem pM.mono {S':Nat→Prop}{w':World}{k:Nat}{ls:List (List (List AV))}{ss:List Value}{xs:Nat→Option Nat}{cs:Nat→Nat} (h:pM S w k ls ss xs cs) (G:∀i b,i<ss.length→xs i=some b→¬S' b) (H:∀i b,i<ss.length→xs i=some b→w'.heap[b]? = w.heap[b]?):pM S' w' k ls ss xs cs:=
 ⟨h.len,fun i hi=>(h.row i hi).mono (fun b F=>G i b hi F) (fun b F=>H i b hi F),h.dif⟩
theorem pM.snoc {k:Nat}{ls:List (List (List AV))}{ss:List Value}{xs:Nat→Option Nat}{cs:Nat→Nat} (h:pM S w k ls ss xs cs) {x:Option Nat}{c:Nat}{r:List (List AV)}{s:Value} (U:Own S w x c k r s) (M:∀i b,i<ss.length→xs i=some b→x≠some b) :
  pM S w k (ls++[r]) (ss++[s]) (fun i=>if i=ss.length then x else xs i) (fun i=>if i=ss.length then c else cs i):=by
 refine⟨by simp[h.len],fun i hi=>?_,fun i j b hi O H h2=>?_⟩
 ·rcases Nat.lt_or_ge i ss.length with hlt|hge
  ·have L:i≠ss.length:=by omega
   have I:(ls++[r]).getD i []=ls.getD i []:=by simp[List.getElem?_append_left (show i<ls.length by rw[h.len];exact hlt)]
   have J:(ss++[s]).getD i undef=ss.getD i undef:=by simp[List.getElem?_append_left hlt]
   simp only[L,if_false];rw[I,J];exact h.row i hlt
  ·have F:i=ss.length:=by simp at hi;omega
   subst F;have I:(ls++[r]).getD ss.length []=r:=by simp[←h.len]
   have J:(ss++[s]).getD ss.length undef=s:=by simp
   simp only[if_true];rw[I,J];exact U
 ·simp only[List.length_append,List.length_singleton] at hi O;by_cases F:i=ss.length<;>by_cases G:j=ss.length
  ·omega
  ·simp only[F,G,if_true,if_false] at H h2;exact(M j b (by omega) h2 H).elim
  ·simp only[F,G,if_true,if_false] at H h2;exact(M i b (by omega) H h2).elim
  ·simp only[F,G,if_false] at H h2;exact h.dif i j b (by omega) (by omega) H h2
theorem OK.bury {σ:St} (G:OK C σ.f a w S ρ κ) {n:Name}{k:Nat}{rows:List (List AV)} (H:aB σ.h n=some (.arr k rows false)) (J:∀r,r∈rows→jQ r=true) {t:Nat} (ht:look σ.s t=.agg [.loc n 0 rows.length])
  {D:Nat→Prop}{xs:List AV}{ss:List Value} (hh:Hid C D (.tup xs) (.tuple ss.toArray)) :
  ∃s C',Later C C'∧OK C' (⟨(t,.agg [.v s])::(aW n σ).s,(aW n σ).h⟩:St).f a w S ρ κ∧Hid C' (fun b=>D b∨ρ n=some b) (.tup (xs++[.sl k rows])) (.tuple (ss++[s]).toArray)∧(∃b n c,s=.slice b n c)∧C'.w0=w∧C'.S0=S∧Own S w (ρ n) (κ n) k rows s:=by
 have hs:=G.slots t;rw[show σ.f.s t=_ from ht] at hs;obtain⟨vs,hv,hc,hr⟩:=gL hs;have O:RV S w ρ κ σ.f.h (.loc n 0 rows.length) (vs.getD 0 undef):=hr 0 (by simp);obtain⟨h1,h2,h3⟩:=G.hide H J O
 have hx:RV S w ρ κ (aW n σ).f.h (.agg [.v (vs.getD 0 undef)]) (a.tmps.getD t undef):=by
  rw[hv];refine .agg _ _ hc fun j hj=>?_;obtain rfl:j=0:=by simpa using hj
  exact .clo (.v _)
 refine⟨vs.getD 0 undef,_,h3,h1.know hx,?_⟩
 have F:=hh.later G (C':=C.anew w S (aW n σ).f.h ρ) rfl (fun _ h=>h) (fun b hm=>by
   obtain⟨m,I,q2⟩:=hm;refine⟨m,?_,q2⟩;rw[nX] at I;simp only[nA] at I;split at I
   · cases I
   · cases hx:σ.f.h m with
     |none=>rw[hx] at I;cases I
     |some b=>rfl)
 have ha:∀{S':Nat→Prop}{w':World} (v:Value),RC S' w' (.sl k rows) v→∃b n c,v=.slice b n c:=fun v h=>by
  cases h with
  |sl=>exact⟨_,_,_,rfl⟩
 refine⟨⟨?_,fun b H=>H.elim (F.lt b) (h2.lt b),fun b H=>H.elim (F.no b) (h2.no b)⟩,ha _ h2.rd,rfl,rfl,G.own H J O⟩;have g2:=h2.rd;have g1:=F.rd;generalize(C.anew w S (aW n σ).f.h ρ).w0=W at g1 g2⊢;cases g1 with
 | tup _ _ hl hr =>
  have M:xs.length=ss.length:=by simpa using hl
  refine .tup _ _ (by simp[M]) fun j hj=>?_;rcases Nat.lt_or_ge j xs.length with h|h
  ·have U:(xs++[AV.sl k rows]).getD j .junk=xs.getD j .junk:=by simp[List.getElem?_append_left h]
   have Y:(ss++[vs.getD 0 undef]).toArray.getD j undef=ss.toArray.getD j undef:=by simp[List.getElem?_append_left (show j<ss.length by omega)]
   rw[U,Y];exact(hr j h).mono (fun _ h=>.inl h) fun _ _=>rfl
  ·have L:j=xs.length:=by simp at hj;omega
   have U:(xs++[AV.sl k rows]).getD j .junk=.sl k rows:=by simp[L]
   have Y:(ss++[vs.getD 0 undef]).toArray.getD j undef=vs.getD 0 undef:=by simp[L,M]
   rw[U,Y];exact g2.mono (fun _ h=>.inr h) fun _ _=>rfl
end
section
variable [Envs]
variable {P:Program}{C:Ctx}{a:Act}{w:World}{S:Nat→Prop}{ρ:Name→Option Nat}{κ:Name→Nat}
theorem aHU {f:FuncId}{k:Nat}{rows F:List (List AV)}{u k0:Value} (Y:Fn P f [.arr k rows false] [.loc (.b 0) 0 rows.length,.v k0] (.v u) [some (.arr k F false)]) (I:∀r,r∈F→jQ r=true)
  {x:Option Nat}{c:Nat}{v:Value} (ho:Own S w x c k rows v) (hS:∀b,S b→b<w.heap.size) (he:Env S w) :
  Calls P f #[v,k0] w fun e w'=>e=.returned u∧w.heap.size≤w'.heap.size∧(∀b,b<w.heap.size→x≠some b→w'.heap[b]? = w.heap[b]?)∧(w'.os=w.os∧w'.output=w.output)∧Own S w' x c k F v∧F.length=rows.length:=by
 have M:∀n b,Hn ([Blk.arr k rows false].map some) n=some b→n=.b 0∧b=.arr k rows false:=by
  intro n b G
  match n,G with
  |.b 0,G=>exact⟨rfl,by simpa[Hn] using G.symm⟩
  |.b (j+1),G=>simp[Hn] at G
  |.t _ _,G=>simp[Hn] at G
 refine(Y.2 S w (fun _=>x) (fun _=>c) #[v,k0] ⟨fun n b G=>?_,fun n m y hn hm _ _=>?_,hS,he⟩ (by simp[Blk.fz]) rfl fun j J=>?_).mono ?_
 ·obtain⟨rfl,rfl⟩:=M n b G;exact ho.blk
 ·obtain⟨b,G⟩:=Option.isSome_iff_exists.1 hn;obtain⟨b',O⟩:=Option.isSome_iff_exists.1 hm;rw[(M n b G).1,(M m b' O).1]
 ·match j,J with
  |0,_=>exact .loc _ _ _ _ fun k' l' z' hl=>ho.loc k' l' z' hl
  |1,_=>exact .clo (.v _)
 rintro e w' ⟨v',S',ρ',κ',rfl,hp,hr⟩;rw[bM hr];obtain⟨e1,e2,b,G,L⟩:=hp.keep 0 (.arr k F false) (by simp) rfl;have U:b=.arr k rows false:=by simpa using G.symm
 subst U;simp only[Blk.same] at L;obtain⟨_,H⟩:=L;refine⟨rfl,hp.size,fun b G hx=>hp.old b G ?_,hp.out,⟨fun k' l' z' hl=>?_,?_,I⟩,H.symm⟩
 ·rintro⟨j,J,ha⟩;exact hx ha
 ·obtain⟨rfl,rfl,rfl⟩:k=k'∧F=l'∧false=z':=by simpa using hl
  have:=ho.loc k rows false rfl;rw[←H];exact this
 ·obtain⟨hk,G⟩:=hp.hok.blk (.b 0) (.arr k F false) rfl;refine⟨hk,?_⟩;rcases G with⟨G,hn⟩|⟨y,cs,T,fr,g1,g2,g3,g4,hc,g5,g6,g7⟩
  ·exact .inl ⟨by rw[←G,e1],hn⟩
  ·refine .inr ⟨y,cs,T,fr,by rw[←g1,e1],g2,g3,fun _ L=>g4 rfl (hp.sub _ L),fun h=>(by cases h),by rw[g5,e2],g6,fun i j hi J=>⟨(g7 i j hi J).1,((g7 i j hi J).2).flat (dA (I _ ?_))⟩⟩;rw[List.getD_eq_getElem?_getD,List.getElem?_eq_getElem hi];exact List.getElem_mem _
theorem OK.wroteM {G:Ctx}{σ:FSt}{D:Nat→Prop} (I:Later G C) (Y:∀b,D b→G.w0.heap.size≤b∨G.Mut b) (J:OK C σ a w S ρ κ) {w':World} (hs:w.heap.size≤w'.heap.size)
  (hw:∀b,b<w.heap.size→¬D b→w'.heap[b]? = w.heap[b]?) (M:w'.os=w.os∧w'.output=w.output):Later G (C.anew w' S σ.h ρ):=by
 have F:=J.back I;refine⟨I.nt,Nat.le_trans F.size hs,fun b H L=>?_,fun b H=>?_,F.S0,F.Snew,⟨M.1.trans F.out.1,M.2.trans F.out.2⟩,I.base⟩
 ·show w'.heap[b]? = _
  rw[hw b (Nat.lt_of_lt_of_le H F.size) fun hd=>(by rcases Y b hd with h|h;omega;exact L h)];exact F.old b H L
 ·obtain⟨n,O,U⟩:=H;exact F.mine n b O U
theorem OK.hid {σ:FSt} (L:OK C σ a w S ρ κ) {D:Nat→Prop} (I:∀b,D b→b<w.heap.size) (h2:∀b,D b→¬S b) (J:∀b,D b→∀n,(σ.h n).isSome→ρ n≠some b):Hid (C.anew w S σ.h ρ) D (.v undef) undef:=
 ⟨.v _,I,fun b F=>⟨h2 b F,fun⟨n,G,H⟩=>J b F n G H⟩⟩
theorem pM.write {w':World}{k:Nat}{ls:List (List (List AV))}{ss:List Value}{xs:Nat→Option Nat}{cs:Nat→Nat} (h:pM S w k ls ss xs cs) {i:Nat} (hi:i<ss.length) {r:List (List AV)} (J:Own S w' (xs i) (cs i) k r (ss.getD i undef))
  (L:∀j b,j<ss.length→xs j=some b→xs i≠some b→w'.heap[b]? = w.heap[b]?) (I:∀j b,j<ss.length→xs j=some b→¬S b):pM S w' k (ls.set i r) ss xs cs:=by
 refine⟨by simp[h.len],fun j G=>?_,h.dif⟩;by_cases F:j=i
 ·subst F;have e:(ls.set j r).getD j []=r:=by simp[show j<ls.length by rw[h.len];exact G]
  rw[e];exact J
 ·have e:(ls.set i r).getD j []=ls.getD j []:=by
   simp only[List.getD_eq_getElem?_getD];rw[List.getElem?_set_ne (Ne.symm F)]
  rw[e];exact(h.row j G).mono (fun b H=>I j b G H) fun b H=>L j b G H fun M=>F (h.dif j i b G hi H M)
theorem Own.no {x:Option Nat}{c k:Nat}{rows:List (List AV)}{v:Value} (h:Own S w x c k rows v) {b:Nat} (F:x=some b):¬S b:=by
 obtain⟨_,⟨g,_⟩|⟨y,cs,T,fr,I,L,M,J,_⟩⟩:=h.blk
 ·have H:x=none:=g;rw[H] at F;cases F
 ·have G:x=some y:=I;rw[G] at F;obtain rfl:=Option.some.inj F;exact J rfl
theorem Fn.has {f:FuncId}{hin:List Blk}{args:List AV}{r:AV}{F:List (Option Blk)} (h:Fn P f hin args r F):mW P f:=h.1
end
end Go.Vs
