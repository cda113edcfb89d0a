/- A row that is written while its walk does not know it. -/
import Derived.Test.YtmiiohemehacjaaGreatDoorVtT
set_option linter.all false
set_option maxHeartbeats 8000000
namespace Go.Vs
section
variable [Envs]
variable {P:Program}{C:Ctx}{a:Act}{w:World}{S:Nat->Prop}{ρ:Name->Option Nat}{κ:Name->Nat}
structure Hid (C:Ctx) (D:Nat->Prop) (x:AV) (v:Value):Prop where
 rd:RC D C.w0 x v
 lt:∀b,D b->b<C.w0.heap.size
 no:∀b,D b->¬C.S0 b∧¬C.Mut b
theorem Hid.same {D:Nat->Prop}{x:AV}{v:Value} (I:Hid C D x v) {σ:FSt} (H:OK C σ a w S ρ κ) :
  (∀b,D b->w.heap[b]? = C.w0.heap[b]?)∧(∀b,D b->b<w.heap.size)∧(∀b,D b->¬S b)∧∀b,D b->∀n,(σ.h n).isSome->ρ n≠some b:=by
 refine⟨λb F=>H.old b (I.lt b F) (I.no b F).2,λb F=>Nat.lt_of_lt_of_le (I.lt b F) H.size,λb F O=>?_,λb F n L J=>?_⟩
 .have:=I.lt b F;rcases H.Snew b O with h|h|h
  .exact(I.no b F).1 h
  .omega
  .exact(I.no b F).2 h
 .have:=I.lt b F;rcases H.mine n b L J with h|h
  .omega
  .exact(I.no b F).2 h
theorem Hid.now {D:Nat->Prop}{x:AV}{v:Value} (H:Hid C D x v) {σ:FSt} (F:OK C σ a w S ρ κ):RC D w x v:=
 H.rd.mono (λ_ h=>h) (λb I=>(H.same F).1 b I)
structure Later (C C':Ctx):Prop where
 nt:C'.nt=C.nt
 size:C.w0.heap.size<=C'.w0.heap.size
 old:∀b,b<C.w0.heap.size->¬C.Mut b->C'.w0.heap[b]? = C.w0.heap[b]?
 wr:∀b,C'.Mut b->C.w0.heap.size<=b∨C.Mut b
 s0:∀b,C.S0 b->C'.S0 b
 new:∀b,C'.S0 b->C.S0 b∨C.w0.heap.size<=b∨C.Mut b
 out:C'.w0.os=C.w0.os∧C'.w0.output=C.w0.output
 base:C'.ρ0=C.ρ0∧C'.κ0=C.κ0∧C'.h0=C.h0
theorem OK.back {C':Ctx} (F:Later C C') {σ:FSt} (h:OK C' σ a w S ρ κ):OK C σ a w S ρ κ where
 nt:=h.nt.trans F.nt
 defers:=h.defers
 slots:=h.slots
 hok:=h.hok
 size:=Nat.le_trans F.size h.size
 old b hb hm:=by
  rw[←F.old b hb hm];refine h.old b (Nat.lt_of_lt_of_le hb F.size) λh'=>?_;rcases F.wr b h' with h''|h''
  .omega
  .exact hm h''
 mine n x h1 h2:=by
  rcases h.mine n x h1 h2 with h'|h'
  .exact .inl (Nat.le_trans F.size h')
  .exact F.wr x h'
 S0 b hb:=h.S0 b (F.s0 b hb)
 Snew b hb:=by
  rcases h.Snew b hb with h'|h'|h'
  .exact F.new b h'
  .exact .inr (.inl (Nat.le_trans F.size h'))
  .exact .inr (F.wr b h')
 out:=⟨h.out.1.trans F.out.1,h.out.2.trans F.out.2⟩
 keep j b hb:=by rw[←F.base.1,←F.base.2.1,←F.base.2.2];exact h.keep j b hb
def Ctx.anew (C:Ctx) (w:World) (S:Nat->Prop) (h:Name->Option Blk) (ρ:Name->Option Nat):Ctx:=
 {C with w0:=w,S0:=S,Mut:=λb=>∃n,(h n).isSome∧ρ n=some b}
theorem OK.anew {σ:FSt} (hok:OK C σ a w S ρ κ):OK (C.anew w S σ.h ρ) σ a w S ρ κ where
 nt:=hok.nt
 defers:=hok.defers
 slots:=hok.slots
 hok:=hok.hok
 size:=Nat.le_refl _
 old _ _ _:=rfl
 mine n x h1 h2:=.inr ⟨n,h1,h2⟩
 S0 _ h:=h
 Snew _ h:=.inl h
 out:=⟨rfl,rfl⟩
 keep:=hok.keep
theorem OK.later {σ:FSt} (F:OK C σ a w S ρ κ):Later C (C.anew w S σ.h ρ) where
 nt:=rfl
 size:=F.size
 old:=F.old
 wr b hb:=by obtain⟨n,H,h2⟩:=hb;exact F.mine n b H h2
 s0:=F.S0
 new:=F.Snew
 out:=F.out
 base:=⟨rfl,rfl,rfl⟩
theorem Later.trans {H I J:Ctx} (h:Later H I) (h':Later I J):Later H J where
 nt:=h'.nt.trans h.nt
 size:=Nat.le_trans h.size h'.size
 old b hb hm:=by
  rw[←h.old b hb hm];refine h'.old b (Nat.lt_of_lt_of_le hb h.size) λF=>?_;rcases h.wr b F with hy|hy
  .omega
  .exact hm hy
 wr b hb:=by
  rcases h'.wr b hb with F|F
  .exact .inl (Nat.le_trans h.size F)
  .exact h.wr b F
 s0 b hb:=h'.s0 b (h.s0 b hb)
 new b hb:=by
  rcases h'.new b hb with F|F|F
  .exact h.new b F
  .exact .inr (.inl (Nat.le_trans h.size F))
  .exact .inr (h.wr b F)
 out:=⟨h'.out.1.trans h.out.1,h'.out.2.trans h.out.2⟩
 base:=⟨h'.base.1.trans h.base.1,h'.base.2.1.trans h.base.2.1,h'.base.2.2.trans h.base.2.2⟩
theorem OK.wrote {σ:FSt}{D:Nat->Prop}{x:AV}{v:Value} (hh:Hid C D x v) (F:OK C σ a w S ρ κ) {w':World} (hs:w.heap.size<=w'.heap.size)
  (O:∀b,b<w.heap.size->¬D b->w'.heap[b]? = w.heap[b]?) (ho:w'.os=w.os∧w'.output=w.output) :
  OK (C.anew w' S σ.h ρ) σ a w' S ρ κ:=by
 obtain⟨_,_,Z,h4⟩:=hh.same F;have I:∀b,S b->w'.heap[b]? = w.heap[b]?:=λb H=>O b (F.hok.dom b H) λJ=>Z b J H;have hN:∀n,(σ.h n).isSome->∀y,ρ n=some y->w'.heap[y]? = w.heap[y]?:=λn L y U=>O y (F.hok.lt L U) λJ=>h4 y J n L U;refine⟨F.nt,F.defers,λt=>?_,⟨λn b H=>?_,F.hok.inj,λb H=>Nat.lt_of_lt_of_le (F.hok.dom b H) hs,F.hok.env.mono (λ_ h=>h) I⟩,Nat.le_refl _,λ_ _ _=>rfl,λn x Y h2=>.inr ⟨n,Y,h2⟩,λ_ h=>h,λ_ h=>.inl h,⟨rfl,rfl⟩,F.keep⟩
 .exact(F.slots t).mono (λ_ h=>h) I λm _=>dY.refl _ _ _ _
 .exact(F.hok.blk n b H).mono (λ_ h=>h) (λ_ _ h=>h) I (hN n (by simp[H])) rfl rfl λm _=>dY.refl _ _ _ _
theorem aDP {ρ:Name->Option Nat}{b:Nat}:¬aAX ρ [] b:=by
 intro h;simp[aAX] at h
end
section
variable [Envs]
variable {P:Program}{C:Ctx}{a:Act}{w:World}{S:Nat->Prop}{ρ:Name->Option Nat}{κ:Name->Nat}
theorem lK {ops:Array Oper}{Q:Exit->Act->World->Prop}{K:St->Prop}{e m:Nat} (O:∀(σ:St) (a:Act) (w:World) (S:Nat->Prop) (ρ:Name->Option Nat) (κ:Name->Nat),K σ->OK C σ.f a w S ρ κ->wpOps P ops Q (List.range' e m) a w) :
  ∀(F:List aJ) (k:Nat),k+F.length=e->(∀j ao,F[j]? = some ao->∃o,ops[k+j]? = some o∧nD P C.nt ops o=some ao.bare)->
  ∀(σ:St) (a:Act) (w:World) (S:Nat->Prop) (ρ:Name->Option Nat) (κ:Name->Nat),vc P K F σ->OK C σ.f a w S ρ κ->wpOps P ops Q (List.range' k (F.length+m)) a w
 | [],k,hk,_,σ,a,w,S,ρ,κ,hv,hok=>by
  simp only[List.length_nil,Nat.add_zero,Nat.zero_add] at hk⊢;subst hk;exact O σ a w S ρ κ hv hok
 | ao::r,k,hk,hs,σ,a,w,S,ρ,κ,hv,hok=>by
  obtain⟨o,ho,hc⟩:=hs 0 ao (by simp);simp only[Nat.add_zero] at ho;obtain⟨h1,h2,Y,h4⟩:=iO hc;rw[show(ao::r).length+m=(r.length+m)+1 by simp only[List.length_cons];omega,List.range'_succ,wpOps_cons]
  have ih:=lK O r (k+1) (by simp only[List.length_cons] at hk;omega) (λj U hj=>by
    obtain⟨o',J,L⟩:=hs (j+1) U (by simpa using hj);exact⟨o',by rw[show k+1+j=k+(j+1) by omega];exact J,L⟩)
  have go:bC P ao.dst σ (vc P K r) ao.op->o.wp P a w (wpOps P ops Q (List.range' (k+1) (r.length+m))) Q:=λha =>
   Oper.wp_mono (λa' w' ⟨σ',S',ρ',κ',O,hok'⟩=>ih σ' a' w' S' ρ' κ' O hok') (vY (P:=P) h1 hok Y (by rw[h2];exact ha))
  unfold wpOp;rw[ho];simp only[vc] at hv;rcases h4 with⟨J,L⟩|⟨j,H,t,J,L,g3⟩
  .rw[L] at hv;have:Region.wanted o (yielded ops a.tmps)=true:=by simp[Region.wanted,J]
   simp only[this,if_true];exact .inl (go hv)
  .rw[L] at hv;simp only at hv;split at hv
   .rename_i b Z;have hw:=yG hok J g3 Z;simp only[hw];by_cases I:b=H
    .simp only[I,beq_self_eq_true,if_true];exact .inl (go ((kQ.1 hv).1 I))
    .have:(b==H)=false:=by simpa using I
     simp only[this,Bool.false_eq_true,if_false];have hn:b = !H:=by cases b<;>cases H<;>simp_all
     refine ih _ _ _ S ρ κ ((kQ.1 hv).2 hn) ?_;have:=hok.put (x:=.v undef) (v:=undef) (.clo (.v _)) Y;rw[h2] at this⊢;simpa[St.f,jU,undef] using this
   .rename_i cs Z;have hw:=yF hok J g3 Z;simp only[hw,Bool.false_eq_true,if_false];refine ih _ _ _ S ρ κ hv ?_;have:=hok.put (x:=.v undef) (v:=undef) (.clo (.v _)) Y;rw[h2] at this⊢;simpa[St.f,jU,undef] using this
   .exact hv.elim
theorem aBn {b:Builtin}{ts:List TypeId}{args l:List Operand}{f:Operand} (h:tX P b ts args=some (.call f l [])):False:=by
 unfold tX at h
 repeat' split at h
 all_goals simp at h
theorem aJh {op:Op}{f:FuncId}{args:List Operand} (h:comp P op=some (.call (.func f) args [])):∃c:Call,op=.call c∧c.callee=.value (.func f)∧args=c.args.toList:=by
 cases op
 case call c =>
  simp only[comp] at h;split at h
  .exact(aBn h).elim
  .rename_i g F;split at h
   .split at h<;>simp at h
   .simp only[Option.some.injEq,AOp.call.injEq,Operand.func.injEq,and_true] at h;exact⟨c,rfl,by rw[F,h.1],h.2.symm⟩
  .rename_i g _ F;simp only[Option.some.injEq,AOp.call.injEq,and_true] at h;exact⟨c,rfl,by rw[F,h.1],h.2.symm⟩
  .cases h
 all_goals(unfold comp at h;repeat' split at h)
 all_goals first|contradiction|(simp at h;done)|(simp[Option.bind_eq_some_iff] at h;done)
theorem amap {α β:Type} (g:α->β) (l:Array α):l.map g ++ #[]=(l.toList.map g).toArray:=by cases l;simp
theorem aBY {ops:Array Oper}{σ:FSt}{o:Oper}{ao:aJ}{f:FuncId}{args:List Operand}{bor:List Nat} (hc:nD P C.nt ops o=some ao.bare) (J:ao.op=.call (.func f) args bor) (L:OK C σ a w S ρ κ) (hb:jL P f)
  {F:Act->World->Prop}{Q:Exit->Act->World->Prop} (h:Calls P f (args.map a.eval).toArray w λe w'=>∃u,e=.returned u∧F (a.put ao.dst u) w'):o.wp P a w F Q:=by
 obtain⟨Z,h2,_,_⟩:=iO hc;rw[J] at Z;obtain⟨c,O,H,rfl⟩:=aJh Z;obtain⟨fn,b,g1,g2,g3⟩:=hb;have hf:=L.ev (.func f);obtain⟨vs,U,hl,_⟩:=aCR hf
 have Y:vs=#[]:=by
  apply Array.eq_empty_of_size_eq_zero;simpa using hl.symm
 subst Y
 have I:(execOp a.eval o).run P w=.ok (.enter f (c.args.map a.eval ++ #[])) w:=by
  simp[execOp,O,resolve,H,U,Deferred.ofValue,invoke,callFunc,g1,g2,g3]
 have e:=amap a.eval c.args;unfold Oper.wp;rw[I,e];simp only[Oper.upon];refine h.mono ?_;rintro e' w' ⟨u,rfl,hn⟩;rw[h2];exact hn
end
section
variable [Envs]
variable {P:Program}{C:Ctx}{a:Act}{w:World}{S:Nat->Prop}{ρ:Name->Option Nat}{κ:Name->Nat}{nt:Nat}{dr:Nat->Array Oper->Option (List Nat)}{Q:Exit->Act->World->Prop}
def zB (nt:Nat) (dr:Nat->Array Oper->Option (List Nat)):Code->Bool
 |.region _ ops draw=>!draw||(match dr nt ops with|some []=>false|_=>true)
 |.seq x y=>zB nt dr x&&zB nt dr y
 |.cond _ x y=>zB nt dr x&&zB nt dr y
 |.block _ x=>zB nt dr x
 |.loop x=>zB nt dr x
 |_=>true
def At (P:Program) (nt:Nat) (dr:Nat->Array Oper->Option (List Nat)) (ac:aF) (Q:Exit->Act->World->Prop) (a:Act) (w:World):Prop:=
 ∀c:Code,bE P nt dr c=some ac.bare->zB nt dr c=true->c.wp P Q a w
theorem At.mono {ac:aF}{F:Exit->Act->World->Prop} (h:At P nt dr ac Q a w) (I:∀e a w,Q e a w->F e a w):At P nt dr ac F a w:=
 λc H J=>Code.wp_mono I (h c H J)
theorem At.seq {x y:aF} (h:At P nt dr x (Exit.then (At P nt dr y Q) Q) a w):At P nt dr (.seq x y) Q a w:=by
 intro c F H;cases c
 case seq cx cy =>
  simp only[bE,aF.bare] at F;split at F
  .rename_i L O J h2;simp only[Option.some.injEq,aF.seq.injEq] at F;obtain⟨rfl,rfl⟩:=F;simp only[zB,Bool.and_eq_true] at H;refine wp_seq (Code.wp_mono (λe a w I=>?_) (h cx J H.1));cases e<;>first|exact I cy h2 H.2|exact I
  .cases F
 all_goals(simp only[bE,aF.bare] at F;first|(cases F;done)|(split at F<;>simp at F)|(simp at F))
theorem At.block {x:aF}{H:Nat} (h:At P nt dr x (Exit.inBlock H Q) a w):At P nt dr (.block H x) Q a w:=by
 intro c F I;cases c
 case block cid cx =>
  simp only[bE,aF.bare] at F;cases h1:bE P nt dr cx with
  |none=>rw[h1] at F;cases F
  | some x' =>
   grind [wp_block,zB,At]
 all_goals(simp only[bE,aF.bare] at F;first|(cases F;done)|(split at F<;>simp at F)|(simp at F))
theorem At.exit {H:Nat} (h:Q (.exit H) a w):At P nt dr (.exit H) Q a w:=by
 intro c F I;cases c
 case exit cid =>
  grind [bE,aF.bare,wp_exit]
 all_goals(simp only[bE,aF.bare] at F;first|(cases F;done)|(split at F<;>simp at F)|(simp at F))
theorem At.skip (h:Q .normal a w):At P nt dr .skip Q a w:=by
 intro c F H;cases c<;>simp[bE,aF.bare] at F
 case skip=>exact wp_skip h
 all_goals(first|(split at F<;>simp at F)|skip)
theorem At.ret (h:Q .ret a w):At P nt dr .ret Q a w:=by
 intro c F H;cases c
 case ret=>exact wp_ret h
 all_goals(simp only[bE,aF.bare] at F;first|(cases F;done)|(split at F<;>simp at F)|(simp at F))
theorem At.cond {x y:aF}{H:Operand}{t:Bool} (J:a.eval H=.bool t) (O:t=true->At P nt dr x Q a w) (L:t=false->At P nt dr y Q a w):At P nt dr (.cond H x y) Q a w:=by
 intro c F I;cases c
 case cond co' cx cy =>
  simp only[bE,aF.bare] at F
  all_goals grind [zB,wp_cond_split,At]
 all_goals(simp only[bE,aF.bare] at F;first|(cases F;done)|(split at F<;>simp at F)|(simp at F))
theorem At.loop {x:aF} (I:Nat->Act->World->Prop) (hr:∀n a w,I n a w->At P nt dr x (Exit.then (λa w=>∃m,m<n∧I m a w) Q) a w) {n:Nat} (Z:I n a w):At P nt dr (.loop x) Q a w:=by
 intro c F L;cases c
 case loop cx =>
  simp only[bE,aF.bare] at F;cases h1:bE P nt dr cx with
  |none=>rw[h1] at F;cases F
  | some x' =>
   rw[h1] at F;simp only[Option.map_some,Option.some.injEq,aF.loop.injEq] at F;subst F
   classical
   let m:Act->World->Nat:=λa w=>if h:∃n,I n a w then(least _ h).choose else 0
   refine wp_loop (λa w=>∃n,I n a w) m ⟨n,Z⟩ ?_;rintro a w H;have hI:=(least _ H).choose_spec.1;have hm:m a w=(least _ H).choose:=by simp only[m,dif_pos H]
   refine Code.wp_mono (λe Y w' U=>?_) (hr _ a w hI cx h1 (by simpa[zB] using L));cases e
   case normal =>
    obtain⟨k,hk,J⟩:=U;have O:∃n,I n Y w':=⟨k,J⟩
    all_goals grind [Exit.then]
   all_goals exact U
 all_goals(simp only[bE,aF.bare] at F;first|(cases F;done)|(split at F<;>simp at F)|(simp at F))
theorem At.fw {ac:aF}{N:St->Prop}{E:uC->St->Prop}{σ:St} (F:iF P dr) (I:OK C σ.f a w S ρ κ) (H:C.nt=nt) (Y:wpc P C dr ac N E σ)
  (L:∀a w,bV C N a w->Q .normal a w) (J:∀i a w,bV C (E (.exit i)) a w->Q (.exit i) a w) (O:∀a w,bV C (E .ret) a w->Q .ret a w):At P nt dr ac Q a w:=
 λc U _=>uK F ac N E σ Y c Q a w S ρ κ (by rw[H];exact U) L J O I
def aHs (P:Program) (nt:Nat) (post:List aJ) (Q:Exit->Act->World->Prop) (a:Act) (w:World):Prop:=
 ∃(C:Ctx) (σ:St) (S:Nat->Prop) (ρ:Name->Option Nat) (κ:Name->Nat) (K:St->Prop),C.nt=nt∧OK C σ.f a w S ρ κ∧vc P K post σ∧∀a w,bV C K a w->Q .normal a w
theorem At.region {pre post:List aJ}{o:aJ}{out:List Nat}{σ:St} (ha:OK C σ.f a w S ρ κ) (hd:C.nt=nt) (hg:o.guard=none)
  (hv:vc P (fun σ1=>∀(a:Act) (w:World) (S:Nat->Prop) (ρ:Name->Option Nat) (κ:Name->Nat) (op:Oper) (ops:Array Oper),OK C σ1.f a w S ρ κ->nD P nt ops op=some o.bare->op.wp P a w (aHs P nt post Q) Q) pre σ) :
  At P nt dr (.region (pre++o::post) out []) Q a w:=by
 intro c F he;cases c
 case region id ops draw =>
  simp only[bE,aF.bare] at F;split at F
  .rename_i hb U;cases ho:aBR P nt ops ops.toList with
   |none=>rw[ho] at F;cases F
   | some l =>
    rw[ho] at F;simp only[Option.map_some,Option.some.injEq,aF.region.injEq,true_and] at F;obtain⟨hl,Y⟩:=F;subst hl;subst Y;cases draw with
    | true =>
     grind [zB]
    | false =>
     obtain⟨g1,g2⟩:=mD ho
     have hs:∀(j:Nat) (ao:aJ),(pre++o::post)[j]? = some ao->∃op,ops[j]? = some op∧nD P nt ops op=some ao.bare:=λj ao O=>by
      grind
     refine wp_region ?_
     have H:ops.size=pre.length+(post.length+1):=by
      grind
     rw[List.range_eq_range',H];refine lK (C:=C) (K:=_) (e:=pre.length) (fun σ1 a w S ρ κ hK I=>?_) pre 0 (by omega) (λj ao O=>?_) σ a w S ρ κ hv ha
     .obtain⟨op,h1,h2⟩:=hs pre.length o (by simp);obtain⟨_,_,_,h4⟩:=iO h2
      have Z:op.guard=none:=by
       grind
      rw[List.range'_succ,wpOps_cons];unfold wpOp;rw[h1];have:Region.wanted op (yielded ops a.tmps)=true:=by simp[Region.wanted,Z]
      simp only[this,if_true];refine .inl (Oper.wp_mono (λa' w' hr=>?_) (hK a w S ρ κ op ops I h2));obtain⟨C',σ',S',ρ',κ',K',e1,e2,e3,e4⟩:=hr;subst e1
      have:=lK (C:=C') (P:=P) (ops:=ops) (Q:=Q) (K:=K') (e:=pre.length+1+post.length) (m:=0) (fun σ2 a2 w2 S2 ρ2 κ2 hk J=>by
        simp only[List.range'_zero];exact e4 a2 w2 ⟨σ2,S2,ρ2,κ2,hk,J⟩) post (pre.length+1) rfl (λj ao O=>by
        obtain ⟨L,q1,q2⟩:=hs (pre.length+1+j) ao (by
          rw[List.getElem?_append_right (by omega),show pre.length+1+j-pre.length=j+1 by omega];simpa using O)
        exact⟨L,q1,q2⟩) σ' a' w' S' ρ' κ' e3 e2
      simpa using this
     .obtain⟨L,q1,q2⟩:=hs j ao (by
        have:j<pre.length:=by
          grind
        rw[List.getElem?_append_left this];exact O)
      all_goals grind
  .cases F
 all_goals(simp only[bE,aF.bare] at F;first|(cases F;done)|(split at F<;>simp at F)|(simp at F))
theorem At.halt {pre post:List aJ}{out:List Nat}{σ:St} (Z:OK C σ.f a w S ρ κ) (hb:C.nt=nt)
  (hv:vc P (fun σ1=>∀(a:Act) (w:World) (S:Nat->Prop) (ρ:Name->Option Nat) (κ:Name->Nat),OK C σ1.f a w S ρ κ->aHs P nt post Q a w) pre σ) :
  At P nt dr (.region (pre++post) out []) Q a w:=by
 intro c F hd;cases c
 case region id ops draw =>
  simp only[bE,aF.bare] at F;split at F
  .rename_i ha U;cases ho:aBR P nt ops ops.toList with
   |none=>rw[ho] at F;cases F
   | some l =>
    rw[ho] at F;simp only[Option.map_some,Option.some.injEq,aF.region.injEq,true_and] at F;obtain⟨hl,Y⟩:=F;subst hl;subst Y;cases draw with
    | true =>
     grind [zB]
    | false =>
     obtain⟨g1,g2⟩:=mD ho
     have hs:∀(j:Nat) (ao:aJ),(pre++post)[j]? = some ao->∃op,ops[j]? = some op∧nD P nt ops op=some ao.bare:=λj ao O=>by
      grind
     refine wp_region ?_
     have H:ops.size=pre.length+post.length:=by
      grind
     rw[List.range_eq_range',H];refine lK (C:=C) (K:=_) (e:=pre.length) (fun σ1 a w S ρ κ hK I=>?_) pre 0 (by omega) (λj ao O=>?_) σ a w S ρ κ hv Z
     .obtain⟨C',σ',S',ρ',κ',K',e1,e2,e3,e4⟩:=hK a w S ρ κ I;subst e1
      have:=lK (C:=C') (P:=P) (ops:=ops) (Q:=Q) (K:=K') (e:=pre.length+post.length) (m:=0) (fun σ2 a2 w2 S2 ρ2 κ2 hk J=>by
        simp only[List.range'_zero];exact e4 a2 w2 ⟨σ2,S2,ρ2,κ2,hk,J⟩) post pre.length rfl (λj ao O=>by
        obtain ⟨L,q1,q2⟩:=hs (pre.length+j) ao (by
          rw[List.getElem?_append_right (by omega),show pre.length+j-pre.length=j by omega];exact O)
        exact⟨L,q1,q2⟩) σ' a w S' ρ' κ' e3 e2
      simpa using this
     .obtain⟨L,q1,q2⟩:=hs j ao (by
        have:j<pre.length:=by
          grind
        rw[List.getElem?_append_left this];exact O)
      all_goals grind
  .cases F
 all_goals(simp only[bE,aF.bare] at F;first|(cases F;done)|(split at F<;>simp at F)|(simp at F))
theorem yC {f:FuncId}{fn:Func}{F:Code}{ac:aF} (hf:P.funcs[f]? = some fn) (I:fn.body=some F) (Y:bE P fn.ntmps dr F=some ac.bare) (hz:zB fn.ntmps dr F=true) {args:List AV} (ha:args.length<=fn.ntmps)
  {vs:Array Value} (U:∀b,S b->b<w.heap.size) (Z:Env S w) (hd:vs.size=args.length) (H:∀j,j<args.length->RC S w (args.getD j .junk) (vs.getD j undef)) (M:Nat->Prop) {R:Ending->World->Prop}
  (h : ∀a,OK ⟨fn.ntmps,w,S,M,λ_=>none,λ_=>0,λ_=>none⟩ (⟨ini 0 args,[]⟩:St).f a w S (λ_=>none) (λ_=>0)->
    At P fn.ntmps dr ac (λe L w'=>(e=.ret∨e=.normal)∧L.defers=[]∧∃v,(results fn L.tmps).run P w'=.ok v w'∧R (.returned v) w') a w):Calls P f vs w R:=by
 refine calls_of_wp hf I ?_;refine Code.wp_mono (λe L w' hq=>?_) (h _ ?_ F Y hz)
 .obtain⟨rfl|rfl,J,v,h2,O⟩:=hq
  .exact⟨J,v,h2,O⟩
  .exact⟨J,v,h2,O⟩
 .refine⟨?_,rfl,λt=>?_,⟨λn b I=>?_,λn m y hn _ _ _=>?_,U,Z⟩,Nat.le_refl _,λ_ _ _=>rfl,λn x J h2=>?_,λ_ h=>h,λb I=>.inl I,⟨rfl,rfl⟩,λj b I=>?_⟩
  .simp only[Array.size_append,Array.size_replicate];omega
  .simp only[St.f,aAE,Nat.zero_le,true_and,Nat.zero_add,Nat.sub_zero];split
   .rename_i ht
    have e:(vs++Array.replicate (fn.ntmps-vs.size) undef).getD t undef=vs.getD t undef:=by
     have J:t<vs.size:=by omega
     simp[Array.getElem?_append,J]
    rw[e];exact .clo (H t ht)
   .exact .junk _
  .simp[St.f,aB] at I
  .simp[St.f,aB] at hn
  .simp[St.f,aB] at J
  .simp[St.f,aB] at I
end
section
variable [Envs]
variable {P:Program}{C:Ctx}{a:Act}{w:World}{S:Nat->Prop}{ρ:Name->Option Nat}{κ:Name->Nat}
theorem OK.know {σ:FSt} (F:OK C σ a w S ρ κ) {t:Nat}{x:AV} (I:RV S w ρ κ σ.h x (a.tmps.getD t undef)):OK C ⟨upd σ.s (some t) x,σ.h⟩ a w S ρ κ:=by
 refine{F with slots:=λu=>?_};simp only[upd];by_cases H:u=t
 .subst H;simp only[if_true];exact I
 .simp only[H,if_false];exact F.slots u
theorem OK.expose {σ:FSt} (U:OK C σ a w S ρ κ) {n:Name}{k:Nat}{rows:List (List AV)}{z:Bool} (hb:σ.h n=some (.arr k rows z)) (J:∀r,r∈rows->iV r=true) {v:Value} (hv:RV S w ρ κ σ.h (.loc n 0 rows.length) v) :
  RC (λb=>ρ n=some b) w (.sl k rows) v:=by
 have hl:=iL hv k rows z hb;obtain⟨_,base,cap,rfl,h1,h2,h3,_⟩:=hl;obtain⟨Y,H⟩:=U.hok.blk n _ hb;rcases H with⟨hn,rfl⟩|⟨x,cs,T,fr,Z,g2,g3,_,_,g5,g6,g7⟩
 .refine .sl k [] base cap 0 0 (λ_=>undef) (by simp) (by simp) (by simp) (by simp) (by simp) ⟨by omega,h2⟩
 .refine .sl k rows base cap x 0 (λi=>cs.getD i undef) (λO=>?_) (λi j hi I=>?_) (λi j hi I=>(g7 i j hi I).1) (λi j hi I=>?_) Y ⟨by omega,h2⟩
  .obtain⟨y,hy,F⟩:=h3 (List.length_pos_iff.2 O);rw[Z] at hy;obtain rfl:=Option.some.inj hy;exact⟨by rw[F];simp,Z⟩
  .have L:i*k+j<cs.size:=by
    have:i*k+k<=rows.length*k:=by rw[←Nat.succ_mul];exact Nat.mul_le_mul_right k hi
    omega
   simp[World.cell?,g2,L]
  .refine((g7 i j hi I).2).flat ?_
   have hm:rows.getD i []∈rows:=by
    rw[List.getD_eq_getElem?_getD,List.getElem?_eq_getElem hi];exact List.getElem_mem _
   exact cZ (J _ hm)
theorem OK.hide {σ:St} (F:OK C σ.f a w S ρ κ) {n:Name}{k:Nat}{rows:List (List AV)} (J:σ.f.h n=some (.arr k rows false)) (L:∀r,r∈rows->iV r=true) {v:Value} (hv:RV S w ρ κ σ.f.h (.loc n 0 rows.length) v) :
  OK (C.anew w S (eU n σ).f.h ρ) (eU n σ).f a w S ρ κ∧Hid (C.anew w S (eU n σ).f.h ρ) (λb=>ρ n=some b) (.sl k rows) v∧Later C (C.anew w S (eU n σ).f.h ρ):=by
 have U:OK C (eU n σ).f a w S ρ κ:=by rw[tT];exact F.kill n
 refine⟨U.anew,⟨F.expose J L hv,λb h=>F.hok.lt (n:=n) (by rw[J];rfl) h,λb h=>⟨λO=>?_,λhm=>?_⟩⟩,U.later⟩
 .obtain⟨_,⟨hn,_⟩|⟨x,cs,T,fr,Y,g2,g3,Z,_⟩⟩:=F.hok.blk n _ J
  .rw[hn] at h;cases h
  .rw[Y] at h;obtain rfl:=Option.some.inj h;exact Z rfl O
 .obtain⟨m,H,h2⟩:=hm
  have I:m≠n:=by
   rintro rfl;rw[tT] at H;simp[pE] at H
  have O:(σ.f.h m).isSome:=by
   rw[tT] at H;simp only[pE,I,if_false] at H;cases hx:σ.f.h m with
   |none=>rw[hx] at H;simp at H
   |some b=>rfl
  exact I (F.hok.inj m n b O (by rw[J];rfl) h2 h)
theorem Hid.later {C':Ctx}{D:Nat->Prop}{x:AV}{v:Value} (J:Hid C D x v) {σ:FSt} (F:OK C σ a w S ρ κ) (I:C'.w0=w) (h1:∀b,C'.S0 b->S b) (h2:∀b,C'.Mut b->∃n,(σ.h n).isSome∧ρ n=some b):Hid C' D x v:=by
 obtain⟨g1,U,Y,Z⟩:=J.same F;refine⟨by rw[I];exact J.now F,λb H=>by rw[I];exact U b H,λb H=>⟨λhs=>Y b H (h1 b hs),λhm=>?_⟩⟩;obtain⟨n,L,O⟩:=h2 b hm;exact Z b H n L O
variable {nt:Nat}{dr:Nat->Array Oper->Option (List Nat)}{Q:Exit->Act->World->Prop}
theorem bV.le {τ:St} (h:bV C (fun σ=>LeL σ τ) a w):∃S ρ κ,OK C τ.f a w S ρ κ:=by
 obtain⟨σ,S,ρ,κ,F,h2⟩:=h;exact⟨S,ρ,κ,h2.le F⟩
theorem bV.no (h:bV C (λ_=>False) a w):False:=by
 obtain⟨_,_,_,_,h,_⟩:=h;exact h
theorem At.step {x y:aF}{σ:St} (τ:St) (H:iF P dr) (J:OK C σ.f a w S ρ κ) (I:C.nt=nt) (O:wpc P C dr x (fun σ'=>LeL σ' τ) (λ_ _=>False) σ)
  (h:∀(a:Act) (w:World) (S:Nat->Prop) (ρ:Name->Option Nat) (κ:Name->Nat),OK C τ.f a w S ρ κ->At P nt dr y Q a w):At P nt dr (.seq x y) Q a w:=
 At.seq (At.fw H J I O (λa w F=>by obtain⟨S,ρ,κ,L⟩:=F.le;exact h a w S ρ κ L) (λi a w F=>F.no.elim) (λa w F=>F.no.elim))
end
section
variable [Envs]
variable {P:Program}{C:Ctx}{a:Act}{w:World}{S:Nat->Prop}{ρ:Name->Option Nat}{κ:Name->Nat}
theorem OK.graft {σ:FSt} (L:OK C σ a w S ρ κ) {n:Name}{ss:List Value}{xs:List AV}{z:Bool} (hb:σ.h n=some (.arr 1 (ss.map λs=>[AV.v s]) z)) {D:Nat->Prop} (hh:Hid C D (.tup xs) (.tuple ss.toArray)) {v:Value} (hv:RV S w ρ κ σ.h (.loc n 0 ss.length) v) :
  RC (λb=>D b∨ρ n=some b) w (.sl 1 (xs.map λx=>[x])) v:=by
 have hn:=hh.now L
 obtain ⟨O,hr⟩:xs.length=ss.length∧∀j,j<xs.length->RC D w (xs.getD j .junk) (ss.toArray.getD j undef):=by
  cases hn with
  |tup _ _ O hr=>exact⟨by simpa using O,hr⟩
 have Y:=iL hv 1 _ z hb;obtain⟨_,base,cap,rfl,h1,h2,h3,_⟩:=Y;obtain⟨he,H⟩:=L.hok.blk n _ hb;have e:ss.length=(xs.map λx=>[x]).length:=by simp[O]
 rcases H with⟨hn,J⟩|⟨x,cs,T,fr,g1,g2,g3,_,_,g5,g6,g7⟩
 .have:ss=[]:=by simpa using J
  subst this;have:xs=[]:=by simpa using O
  subst this;refine .sl 1 [] base cap 0 0 (λ_=>undef) (by simp) (by simp) (by simp) (by simp) (by simp) ⟨by omega,h2⟩
 .rw[e];have hc:(xs.map λx=>[x]).length=ss.length:=e.symm;have hd:(ss.map λs=>[AV.v s]).length=ss.length:=by simp
  refine .sl 1 _ base cap x 0 (λi=>cs.getD i undef) (λha=>?_) (λi j hi U=>?_) (λi j hi U=>(g7 i j (by omega) U).1) (λi j hi U=>?_) (λi hi=>?_) ⟨by omega,h2⟩
  .have:0<ss.length:=by have:=List.length_pos_iff.2 ha;omega
   obtain⟨y,hy,F⟩:=h3 (by omega);rw[g1] at hy;obtain rfl:=Option.some.inj hy;exact⟨by simpa using F,.inr g1⟩
  .have Z:i+j<cs.size:=by omega
   simp[World.cell?,g2,Z]
  .have I:i<ss.length:=by omega
   obtain rfl:j=0:=by omega
   have:=(g7 i 0 (by omega) (by omega)).2;have e1:((ss.map λs=>[AV.v s]).getD i []).getD 0 .junk=.v ss[i]:=by simp[I]
   rw[e1] at this;rw[bL (ρ:=ρ) (κ:=κ) (h:=σ.h) (.clo this)]
   have e2:((xs.map λx=>[x]).getD i []).getD 0 .junk=xs.getD i .junk:=by
    have:i<xs.length:=by omega
    simp[this]
   rw[e2];have:=hr i (by omega);have e3:ss.toArray.getD i undef=ss[i]:=by simp[I]
   rw[e3] at this;exact this.mono (λ_ h=>.inl h) λ_ _=>rfl
  .have:i<xs.length:=by omega
   simp[this]
structure Own (S:Nat->Prop) (w:World) (x:Option Nat) (c:Nat) (k:Nat) (rows:List (List AV)) (v:Value):Prop where
 loc:aDm (λ_=>x) (λ_=>c) (λ_=>some (.arr k rows false)) (.b 0) 0 rows.length v
 blk:zM S w (λ_=>x) (λ_=>c) (λ_=>some (.arr k rows false)) (.b 0) (.arr k rows false)
 fl:∀r,r∈rows->iV r=true
theorem OK.own {σ:FSt} (H:OK C σ a w S ρ κ) {n:Name}{k:Nat}{rows:List (List AV)} (I:σ.h n=some (.arr k rows false)) (F:∀r,r∈rows->iV r=true) {v:Value} (L:RV S w ρ κ σ.h (.loc n 0 rows.length) v) :
  Own S w (ρ n) (κ n) k rows v:=by
 refine⟨λO U Y J=>?_,H.hok.blk n _ I,F⟩;obtain⟨rfl,rfl,rfl⟩:k=O∧rows=U∧false=Y:=by simpa using J
 exact iL L k rows false I
theorem Own.mono {S':Nat->Prop}{w':World}{x:Option Nat}{c k:Nat}{rows:List (List AV)}{v:Value} (h:Own S w x c k rows v) (J:∀b,x=some b->¬S' b) (O:∀b,x=some b->w'.heap[b]? = w.heap[b]?):Own S' w' x c k rows v:=by
 refine⟨h.loc,?_,h.fl⟩;obtain⟨L,H⟩:=h.blk;refine⟨L,?_⟩;rcases H with H|⟨y,cs,T,fr,g1,g2,g3,g4,g4',g5,g6,g7⟩
 .exact .inl H
 .have F:x=some y:=g1;refine .inr ⟨y,cs,T,fr,g1,by rw[O y F];exact g2,g3,λ_=>J y F,λh=>(by cases h),g5,g6,λi j hi I=>⟨(g7 i j hi I).1,?_⟩⟩;refine RC.mono (S:=λ_=>False) (w:=w) (λ_ h=>h.elim) (λ_ h=>h.elim) (((g7 i j hi I).2).flat (cZ (h.fl _ ?_)));rw[List.getD_eq_getElem?_getD,List.getElem?_eq_getElem hi];exact List.getElem_mem _
structure wQ (S:Nat->Prop) (w:World) (k:Nat) (ls:List (List (List AV))) (ss:List Value) (xs:Nat->Option Nat) (cs:Nat->Nat):Prop where
 len:ls.length=ss.length
 row:∀i,i<ss.length->Own S w (xs i) (cs i) k (ls.getD i []) (ss.getD i undef)
 dif:∀i j b,i<ss.length->j<ss.length->xs i=some b->xs j=some b->i=j
theorem wQ.mono {S':Nat->Prop}{w':World}{k:Nat}{ls:List (List (List AV))}{ss:List Value}{xs:Nat->Option Nat}{cs:Nat->Nat} (h:wQ S w k ls ss xs cs) (H:∀i b,i<ss.length->xs i=some b->¬S' b) (I:∀i b,i<ss.length->xs i=some b->w'.heap[b]? = w.heap[b]?):wQ S' w' k ls ss xs cs:=
 ⟨h.len,λi hi=>(h.row i hi).mono (λb F=>H i b hi F) (λb F=>I i b hi F),h.dif⟩
theorem wQ.snoc {k:Nat}{ls:List (List (List AV))}{ss:List Value}{xs:Nat->Option Nat}{cs:Nat->Nat} (h:wQ S w k ls ss xs cs) {x:Option Nat}{c:Nat}{r:List (List AV)}{s:Value} (Z:Own S w x c k r s) (U:∀i b,i<ss.length->xs i=some b->x≠some b) :
  wQ S w k (ls++[r]) (ss++[s]) (λi=>if i=ss.length then x else xs i) (λi=>if i=ss.length then c else cs i):=by
 refine⟨by simp[h.len],λi hi=>?_,λi j b hi Y I h2=>?_⟩
 .rcases Nat.lt_or_ge i ss.length with hlt|hge
  .have O:i≠ss.length:=by omega
   have J:(ls++[r]).getD i []=ls.getD i []:=by simp[List.getElem?_append_left (show i<ls.length by rw[h.len];exact hlt)]
   have L:(ss++[s]).getD i undef=ss.getD i undef:=by simp[List.getElem?_append_left hlt]
   simp only[O,if_false];rw[J,L];exact h.row i hlt
  .have F:i=ss.length:=by simp at hi;omega
   subst F;have J:(ls++[r]).getD ss.length []=r:=by simp[←h.len]
   have L:(ss++[s]).getD ss.length undef=s:=by simp
   simp only[if_true];rw[J,L];exact Z
 .simp only[List.length_append,List.length_singleton] at hi Y;by_cases F:i=ss.length<;>by_cases H:j=ss.length
  .omega
  .simp only[F,H,if_true,if_false] at I h2;exact(U j b (by omega) h2 I).elim
  .simp only[F,H,if_true,if_false] at I h2;exact(U i b (by omega) I h2).elim
  .simp only[F,H,if_false] at I h2;exact h.dif i j b (by omega) (by omega) I h2
theorem OK.bury {σ:St} (H:OK C σ.f a w S ρ κ) {n:Name}{k:Nat}{rows:List (List AV)} (I:aB σ.h n=some (.arr k rows false)) (L:∀r,r∈rows->iV r=true) {t:Nat} (ht:look σ.s t=.agg [.loc n 0 rows.length])
  {D:Nat->Prop}{xs:List AV}{ss:List Value} (hh:Hid C D (.tup xs) (.tuple ss.toArray)) :
  ∃s C',Later C C'∧OK C' (⟨(t,.agg [.v s])::(eU n σ).s,(eU n σ).h⟩:St).f a w S ρ κ∧Hid C' (λb=>D b∨ρ n=some b) (.tup (xs++[.sl k rows])) (.tuple (ss++[s]).toArray)∧(∃b n c,s=.slice b n c)∧C'.w0=w∧C'.S0=S∧Own S w (ρ n) (κ n) k rows s:=by
 have hs:=H.slots t;rw[show σ.f.s t=_ from ht] at hs;obtain⟨vs,hv,hc,hr⟩:=qJ hs;have Y:RV S w ρ κ σ.f.h (.loc n 0 rows.length) (vs.getD 0 undef):=hr 0 (by simp);obtain⟨h1,h2,h3⟩:=H.hide I L Y
 have hx:RV S w ρ κ (eU n σ).f.h (.agg [.v (vs.getD 0 undef)]) (a.tmps.getD t undef):=by
  rw[hv];refine .agg _ _ hc λj hj=>?_;obtain rfl:j=0:=by simpa using hj
  exact .clo (.v _)
 refine⟨vs.getD 0 undef,_,h3,h1.know hx,?_⟩
 have F:=hh.later H (C':=C.anew w S (eU n σ).f.h ρ) rfl (λ_ h=>h) (λb hm=>by
   obtain⟨m,J,q2⟩:=hm;refine⟨m,?_,q2⟩;rw[tT] at J;simp only[pE] at J;split at J
   . cases J
   . cases hx:σ.f.h m with
     |none=>rw[hx] at J;cases J
     |some b=>rfl)
 have ha:∀{S':Nat->Prop}{w':World} (v:Value),RC S' w' (.sl k rows) v->∃b n c,v=.slice b n c:=λv h=>by
  cases h with
  |sl=>exact⟨_,_,_,rfl⟩
 refine⟨⟨?_,λb I=>I.elim (F.lt b) (h2.lt b),λb I=>I.elim (F.no b) (h2.no b)⟩,ha _ h2.rd,rfl,rfl,H.own I L Y⟩;have g2:=h2.rd;have g1:=F.rd;generalize(C.anew w S (eU n σ).f.h ρ).w0=W at g1 g2⊢;cases g1 with
 | tup _ _ hl hr =>
  have U:xs.length=ss.length:=by simpa using hl
  refine .tup _ _ (by simp[U]) λj hj=>?_;rcases Nat.lt_or_ge j xs.length with h|h
  .have Z:(xs++[AV.sl k rows]).getD j .junk=xs.getD j .junk:=by simp[List.getElem?_append_left h]
   have e2:(ss++[vs.getD 0 undef]).toArray.getD j undef=ss.toArray.getD j undef:=by simp[List.getElem?_append_left (show j<ss.length by omega)]
   rw[Z,e2];exact(hr j h).mono (λ_ h=>.inl h) λ_ _=>rfl
  .have O:j=xs.length:=by simp at hj;omega
   have Z:(xs++[AV.sl k rows]).getD j .junk=.sl k rows:=by simp[O]
   have e2:(ss++[vs.getD 0 undef]).toArray.getD j undef=vs.getD 0 undef:=by simp[O,U]
   rw[Z,e2];exact g2.mono (λ_ h=>.inr h) λ_ _=>rfl
end
section
variable [Envs]
variable {P:Program}{C:Ctx}{a:Act}{w:World}{S:Nat->Prop}{ρ:Name->Option Nat}{κ:Name->Nat}
theorem aEc {f:FuncId}{k:Nat}{rows F:List (List AV)}{u k0:Value} (ha:Fn P f [.arr k rows false] [.loc (.b 0) 0 rows.length,.v k0] (.v u) [some (.arr k F false)]) (J:∀r,r∈F->iV r=true)
  {x:Option Nat}{c:Nat}{v:Value} (ho:Own S w x c k rows v) (hS:∀b,S b->b<w.heap.size) (he:Env S w) :
  Calls P f #[v,k0] w λe w'=>e=.returned u∧w.heap.size<=w'.heap.size∧(∀b,b<w.heap.size->x≠some b->w'.heap[b]? = w.heap[b]?)∧(w'.os=w.os∧w'.output=w.output)∧Own S w' x c k F v∧F.length=rows.length:=by
 have U:∀n b,Hn ([Blk.arr k rows false].map some) n=some b->n=.b 0∧b=.arr k rows false:=by
  intro n b H
  match n,H with
  |.b 0,H=>exact⟨rfl,by simpa[Hn] using H.symm⟩
  |.b (j+1),H=>simp[Hn] at H
  |.t _ _,H=>simp[Hn] at H
 refine(ha.2 S w (λ_=>x) (λ_=>c) #[v,k0] ⟨λn b H=>?_,λn m y hn hm _ _=>?_,hS,he⟩ (by simp[Blk.fz]) rfl λj L=>?_).mono ?_
 .obtain⟨rfl,rfl⟩:=U n b H;exact ho.blk
 .obtain⟨b,H⟩:=Option.isSome_iff_exists.1 hn;obtain⟨b',Y⟩:=Option.isSome_iff_exists.1 hm;rw[(U n b H).1,(U m b' Y).1]
 .match j,L with
  |0,_=>exact .loc _ _ _ _ λk' l' z' hl=>ho.loc k' l' z' hl
  |1,_=>exact .clo (.v _)
 rintro e w' ⟨v',S',ρ',κ',rfl,hp,hr⟩;rw[bL hr];obtain⟨e1,e2,b,H,O⟩:=hp.keep 0 (.arr k F false) (by simp) rfl;have Z:b=.arr k rows false:=by simpa using H.symm
 subst Z;simp only[Blk.same] at O;obtain⟨_,I⟩:=O;refine⟨rfl,hp.size,λb H hx=>hp.old b H ?_,hp.out,⟨λk' l' z' hl=>?_,?_,J⟩,I.symm⟩
 .rintro⟨j,L,hc⟩;exact hx hc
 .obtain⟨rfl,rfl,rfl⟩:k=k'∧F=l'∧false=z':=by simpa using hl
  have:=ho.loc k rows false rfl;rw[←I];exact this
 .obtain⟨hk,H⟩:=hp.hok.blk (.b 0) (.arr k F false) rfl;refine⟨hk,?_⟩;rcases H with⟨H,hn⟩|⟨y,cs,T,fr,g1,g2,g3,g4,hd,g5,g6,g7⟩
  .exact .inl ⟨by rw[←H,e1],hn⟩
  .refine .inr ⟨y,cs,T,fr,by rw[←g1,e1],g2,g3,λ_ O=>g4 rfl (hp.sub _ O),λh=>(by cases h),by rw[g5,e2],g6,λi j hi L=>⟨(g7 i j hi L).1,((g7 i j hi L).2).flat (cZ (J _ ?_))⟩⟩;rw[List.getD_eq_getElem?_getD,List.getElem?_eq_getElem hi];exact List.getElem_mem _
theorem OK.wroteM {H:Ctx}{σ:FSt}{D:Nat->Prop} (J:Later H C) (hD:∀b,D b->H.w0.heap.size<=b∨H.Mut b) (L:OK C σ a w S ρ κ) {w':World} (hs:w.heap.size<=w'.heap.size)
  (hw:∀b,b<w.heap.size->¬D b->w'.heap[b]? = w.heap[b]?) (U:w'.os=w.os∧w'.output=w.output):Later H (C.anew w' S σ.h ρ):=by
 have F:=L.back J;refine⟨J.nt,Nat.le_trans F.size hs,λb I O=>?_,λb I=>?_,F.S0,F.Snew,⟨U.1.trans F.out.1,U.2.trans F.out.2⟩,J.base⟩
 .show w'.heap[b]? = _
  rw[hw b (Nat.lt_of_lt_of_le I F.size) λhd=>(by rcases hD b hd with h|h;omega;exact O h)];exact F.old b I O
 .obtain⟨n,Y,Z⟩:=I;exact F.mine n b Y Z
theorem OK.hid {σ:FSt} (O:OK C σ a w S ρ κ) {D:Nat->Prop} (J:∀b,D b->b<w.heap.size) (h2:∀b,D b->¬S b) (L:∀b,D b->∀n,(σ.h n).isSome->ρ n≠some b):Hid (C.anew w S σ.h ρ) D (.v undef) undef:=
 ⟨.v _,J,λb F=>⟨h2 b F,λ⟨n,H,I⟩=>L b F n H I⟩⟩
theorem wQ.write {w':World}{k:Nat}{ls:List (List (List AV))}{ss:List Value}{xs:Nat->Option Nat}{cs:Nat->Nat} (h:wQ S w k ls ss xs cs) {i:Nat} (hi:i<ss.length) {r:List (List AV)} (L:Own S w' (xs i) (cs i) k r (ss.getD i undef))
  (O:∀j b,j<ss.length->xs j=some b->xs i≠some b->w'.heap[b]? = w.heap[b]?) (J:∀j b,j<ss.length->xs j=some b->¬S b):wQ S w' k (ls.set i r) ss xs cs:=by
 refine⟨by simp[h.len],λj H=>?_,h.dif⟩;by_cases F:j=i
 .subst F;have e:(ls.set j r).getD j []=r:=by simp[show j<ls.length by rw[h.len];exact H]
  rw[e];exact L
 .have e:(ls.set i r).getD j []=ls.getD j []:=by
   simp only[List.getD_eq_getElem?_getD];rw[List.getElem?_set_ne (Ne.symm F)]
  rw[e];exact(h.row j H).mono (λb I=>J j b H I) λb I=>O j b H I λU=>F (h.dif j i b H hi I U)
theorem Own.no {x:Option Nat}{c k:Nat}{rows:List (List AV)}{v:Value} (h:Own S w x c k rows v) {b:Nat} (F:x=some b):¬S b:=by
 obtain⟨_,⟨g,_⟩|⟨y,cs,T,fr,J,O,U,L,_⟩⟩:=h.blk
 .have I:x=none:=g;rw[I] at F;cases F
 .have H:x=some y:=J;rw[H] at F;obtain rfl:=Option.some.inj F;exact L rfl
theorem Fn.has {f:FuncId}{hin:List Blk}{args:List AV}{r:AV}{F:List (Option Blk)} (h:Fn P f hin args r F):jL P f:=h.1
end
end Go.Vs
