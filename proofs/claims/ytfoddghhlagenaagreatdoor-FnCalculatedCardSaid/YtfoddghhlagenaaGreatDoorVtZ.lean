/- A row that is written while its walk does not know it. -/
import Derived.Test.YtfoddghhlagenaaGreatDoorVtS
set_option linter.all false
set_option maxHeartbeats 8000000
namespace Go.Vs
section
variable [Envs]
variable {P:Program}{C:Ctx}{a:Act}{w:World}{S:Nat->Prop}{ρ:Name->Option Nat}{κ:Name->Nat}
theorem OK.oJ {σ:St}{n m:Name} (hn:n≠m) (hf:bG m σ=true) (hok:OK C σ.f a w S ρ κ):∃ρ' κ',OK C (oJ n m σ).f a w S ρ' κ':=by
 have hf':=bS hf
 obtain⟨ρ',κ',h1⟩:=hok.rename (n:=n) (m:=m) hn hf'.1.1 hf'.1.2
 refine⟨ρ',κ',?_⟩
 have e:(⟨λu=>rn (nmF n m) (σ.f.s u),λx=>if x=m then(σ.f.h n).map (rnB (nmF n m)) else if x=n then none else(σ.f.h x).map (rnB (nmF n m))⟩:FSt)=(Vs.oJ n m σ).f:=by
  simp only[St.f,Vs.oJ,FSt.mk.injEq]
  refine⟨funext λu=>(jB _ (by simp[rn]) _ u).symm,funext λx=>(uW _ x hf'.1.1).symm⟩
 rw[e] at h1
 exact h1
end
section
variable [Envs]
variable {P:Program}{C:Ctx}{a:Act}{w:World}{S:Nat->Prop}{ρ:Name->Option Nat}{κ:Name->Nat}
structure Hid (C:Ctx) (D:Nat->Prop) (x:AV) (v:Value):Prop where
 rd:RC D C.w0 x v
 lt:∀b,D b->b<C.w0.heap.size
 no:∀b,D b->¬C.S0 b∧¬C.Mut b
theorem Hid.same {D:Nat->Prop}{x:AV}{v:Value} (hh:Hid C D x v) {σ:FSt} (hok:OK C σ a w S ρ κ) :
  (∀b,D b->w.heap[b]? = C.w0.heap[b]?)∧(∀b,D b->b<w.heap.size)∧(∀b,D b->¬S b)∧∀b,D b->∀n,(σ.h n).isSome->ρ n≠some b:=by
 refine⟨λb hb=>hok.old b (hh.lt b hb) (hh.no b hb).2,λb hb=>Nat.lt_of_lt_of_le (hh.lt b hb) hok.size,λb hb hs=>?_,λb hb n hn he=>?_⟩
 .have:=hh.lt b hb
  rcases hok.Snew b hs with h|h|h
  .exact(hh.no b hb).1 h
  .omega
  .exact(hh.no b hb).2 h
 .have:=hh.lt b hb
  rcases hok.mine n b hn he with h|h
  .omega
  .exact(hh.no b hb).2 h
theorem Hid.now {D:Nat->Prop}{x:AV}{v:Value} (hh:Hid C D x v) {σ:FSt} (hok:OK C σ a w S ρ κ):RC D w x v:=
 hh.rd.mono (λ_ h=>h) (λb hb=>(hh.same hok).1 b hb)
structure Later (C C':Ctx):Prop where
 nt:C'.nt=C.nt
 size:C.w0.heap.size<=C'.w0.heap.size
 old:∀b,b<C.w0.heap.size->¬C.Mut b->C'.w0.heap[b]? = C.w0.heap[b]?
 wr:∀b,C'.Mut b->C.w0.heap.size<=b∨C.Mut b
 s0:∀b,C.S0 b->C'.S0 b
 new:∀b,C'.S0 b->C.S0 b∨C.w0.heap.size<=b∨C.Mut b
 out:C'.w0.os=C.w0.os∧C'.w0.output=C.w0.output
 base:C'.ρ0=C.ρ0∧C'.κ0=C.κ0∧C'.h0=C.h0
theorem OK.back {C':Ctx} (hl:Later C C') {σ:FSt} (h:OK C' σ a w S ρ κ):OK C σ a w S ρ κ where
 nt:=h.nt.trans hl.nt
 defers:=h.defers
 slots:=h.slots
 hok:=h.hok
 size:=Nat.le_trans hl.size h.size
 old b hb hm:=by
  rw[←hl.old b hb hm]
  refine h.old b (Nat.lt_of_lt_of_le hb hl.size) λh'=>?_
  rcases hl.wr b h' with h''|h''
  .omega
  .exact hm h''
 mine n x h1 h2:=by
  rcases h.mine n x h1 h2 with h'|h'
  .exact .inl (Nat.le_trans hl.size h')
  .exact hl.wr x h'
 S0 b hb:=h.S0 b (hl.s0 b hb)
 Snew b hb:=by
  rcases h.Snew b hb with h'|h'|h'
  .exact hl.new b h'
  .exact .inr (.inl (Nat.le_trans hl.size h'))
  .exact .inr (hl.wr b h')
 out:=⟨h.out.1.trans hl.out.1,h.out.2.trans hl.out.2⟩
 keep j b hb:=by rw[←hl.base.1,←hl.base.2.1,←hl.base.2.2];exact h.keep j b hb
def Ctx.anew (C:Ctx) (w:World) (S:Nat->Prop) (h:Name->Option Blk) (ρ:Name->Option Nat):Ctx:=
 {C with w0:=w,S0:=S,Mut:=λb=>∃n,(h n).isSome∧ρ n=some b}
theorem OK.anew {σ:FSt} (hok:OK C σ a w S ρ κ):OK (C.anew w S σ.h ρ) σ a w S ρ κ where
 nt:=hok.nt
 defers:=hok.defers
 slots:=hok.slots
 hok:=hok.hok
 size:=Nat.le_refl _
 old _ _ _:=rfl
 mine n x h1 h2:=.inr ⟨n,h1,h2⟩
 S0 _ h:=h
 Snew _ h:=.inl h
 out:=⟨rfl,rfl⟩
 keep:=hok.keep
theorem OK.later {σ:FSt} (hok:OK C σ a w S ρ κ):Later C (C.anew w S σ.h ρ) where
 nt:=rfl
 size:=hok.size
 old:=hok.old
 wr b hb:=by obtain⟨n,h1,h2⟩:=hb;exact hok.mine n b h1 h2
 s0:=hok.S0
 new:=hok.Snew
 out:=hok.out
 base:=⟨rfl,rfl,rfl⟩
theorem Later.trans {C1 C2 C3:Ctx} (h:Later C1 C2) (h':Later C2 C3):Later C1 C3 where
 nt:=h'.nt.trans h.nt
 size:=Nat.le_trans h.size h'.size
 old b hb hm:=by
  rw[←h.old b hb hm]
  refine h'.old b (Nat.lt_of_lt_of_le hb h.size) λhx=>?_
  rcases h.wr b hx with hy|hy
  .omega
  .exact hm hy
 wr b hb:=by
  rcases h'.wr b hb with hx|hx
  .exact .inl (Nat.le_trans h.size hx)
  .exact h.wr b hx
 s0 b hb:=h'.s0 b (h.s0 b hb)
 new b hb:=by
  rcases h'.new b hb with hx|hx|hx
  .exact h.new b hx
  .exact .inr (.inl (Nat.le_trans h.size hx))
  .exact .inr (h.wr b hx)
 out:=⟨h'.out.1.trans h.out.1,h'.out.2.trans h.out.2⟩
 base:=⟨h'.base.1.trans h.base.1,h'.base.2.1.trans h.base.2.1,h'.base.2.2.trans h.base.2.2⟩
theorem aCL {ρ:Name->Option Nat}{b:Nat}:¬nD ρ [] b:=by
 intro h
 simp[nD] at h
end
section
variable [Envs]
variable {P:Program}{C:Ctx}{a:Act}{w:World}{S:Nat->Prop}{ρ:Name->Option Nat}{κ:Name->Nat}
theorem iH {ops:Array Oper}{Q:Exit->Act->World->Prop}{K:St->Prop}{e m:Nat} (hK:∀(σ:St) (a:Act) (w:World) (S:Nat->Prop) (ρ:Name->Option Nat) (κ:Name->Nat),K σ->OK C σ.f a w S ρ κ->wpOps P ops Q (List.range' e m) a w) :
  ∀(aops:List aH) (k:Nat),k+aops.length=e->(∀j ao,aops[j]? = some ao->∃o,ops[k+j]? = some o∧gY P C.nt ops o=some ao.bare)->
  ∀(σ:St) (a:Act) (w:World) (S:Nat->Prop) (ρ:Name->Option Nat) (κ:Name->Nat),vc P K aops σ->OK C σ.f a w S ρ κ->wpOps P ops Q (List.range' k (aops.length+m)) a w
 | [],k,hk,_,σ,a,w,S,ρ,κ,hv,hok=>by
  simp only[List.length_nil,Nat.add_zero,Nat.zero_add] at hk⊢
  subst hk
  exact hK σ a w S ρ κ hv hok
 | ao::r,k,hk,hs,σ,a,w,S,ρ,κ,hv,hok=>by
  obtain⟨o,ho,hc⟩:=hs 0 ao (by simp)
  simp only[Nat.add_zero] at ho
  obtain⟨h1,h2,h3,h4⟩:=dR hc
  rw[show(ao::r).length+m=(r.length+m)+1 by simp only[List.length_cons];omega,List.range'_succ,wpOps_cons]
  have ih:=iH hK r (k+1) (by simp only[List.length_cons] at hk;omega) (λj ao' hj=>by
    obtain⟨o',g1,g2⟩:=hs (j+1) ao' (by simpa using hj)
    exact⟨o',by rw[show k+1+j=k+(j+1) by omega];exact g1,g2⟩)
  have go:aV P ao.dst σ (vc P K r) ao.op->o.wp P a w (wpOps P ops Q (List.range' (k+1) (r.length+m))) Q:=λhst =>
   Oper.wp_mono (λa' w' ⟨σ',S',ρ',κ',hK,hok'⟩=>ih σ' a' w' S' ρ' κ' hK hok') (oG (P:=P) h1 hok h3 (by rw[h2];exact hst))
  unfold wpOp
  rw[ho]
  simp only[vc] at hv
  rcases h4 with⟨g1,g2⟩|⟨j,want,t,g1,g2,g3⟩
  .rw[g2] at hv
   have:Region.wanted o (yielded ops a.tmps)=true:=by simp[Region.wanted,g1]
   simp only[this,if_true]
   exact .inl (go hv)
  .rw[g2] at hv
   simp only at hv
   split at hv
   .rename_i b hb
    have hw:=qQ hok g1 g3 hb
    simp only[hw]
    by_cases hbw:b=want
    .simp only[hbw,beq_self_eq_true,if_true]
     exact .inl (go ((gX.1 hv).1 hbw))
    .have:(b==want)=false:=by simpa using hbw
     simp only[this,Bool.false_eq_true,if_false]
     have hn:b = !want:=by cases b<;>cases want<;>simp_all
     refine ih _ _ _ S ρ κ ((gX.1 hv).2 hn) ?_
     have:=hok.put (x:=.v undef) (v:=undef) (.clo (.v _)) h3
     rw[h2] at this⊢
     simpa[St.f,fU,undef] using this
   .rename_i cs hb
    have hw:=qP hok g1 g3 hb
    simp only[hw,Bool.false_eq_true,if_false]
    refine ih _ _ _ S ρ κ hv ?_
    have:=hok.put (x:=.v undef) (v:=undef) (.clo (.v _)) h3
    rw[h2] at this⊢
    simpa[St.f,fU,undef] using this
   .exact hv.elim
theorem vB {b:Builtin}{ts:List TypeId}{args l:List Operand}{f:Operand} (h:mZ P b ts args=some (.call f l [])):False:=by
 unfold mZ at h
 repeat' split at h
 all_goals simp at h
theorem aC2 {op:Op}{f:FuncId}{args:List Operand} (h:comp P op=some (.call (.func f) args [])):∃c:Call,op=.call c∧c.callee=.value (.func f)∧args=c.args.toList:=by
 cases op
 case call c =>
  simp only[comp] at h
  split at h
  .exact(vB h).elim
  .rename_i g hg
   split at h
   .split at h<;>simp at h
   .simp only[Option.some.injEq,AOp.call.injEq,Operand.func.injEq,and_true] at h
    exact⟨c,rfl,by rw[hg,h.1],h.2.symm⟩
  .rename_i g _ hg
   simp only[Option.some.injEq,AOp.call.injEq,and_true] at h
   exact⟨c,rfl,by rw[hg,h.1],h.2.symm⟩
  .cases h
 all_goals(unfold comp at h;repeat' split at h)
 all_goals first|contradiction|(simp at h;done)|(simp[Option.bind_eq_some_iff] at h;done)
theorem amap {α β:Type} (g:α->β) (l:Array α):l.map g ++ #[]=(l.toList.map g).toArray:=by cases l;simp
theorem zS {ops:Array Oper}{σ:FSt}{o:Oper}{ao:aH}{f:FuncId}{args:List Operand}{bor:List Nat} (hc:gY P C.nt ops o=some ao.bare) (hao:ao.op=.call (.func f) args bor) (hok:OK C σ a w S ρ κ) (hb:lH P f)
  {next:Act->World->Prop}{Q:Exit->Act->World->Prop} (h:Calls P f (args.map a.eval).toArray w λe w'=>∃u,e=.returned u∧next (a.put ao.dst u) w'):o.wp P a w next Q:=by
 obtain⟨h1,h2,_,_⟩:=dR hc
 rw[hao] at h1
 obtain⟨c,hop,hcal,rfl⟩:=aC2 h1
 obtain⟨fn,b,g1,g2,g3⟩:=hb
 have hf:=hok.ev (.func f)
 obtain⟨vs,hva,hl,_⟩:=xN hf
 have hvs:vs=#[]:=by
  apply Array.eq_empty_of_size_eq_zero
  simpa using hl.symm
 subst hvs
 have hrun:(execOp a.eval o).run P w=.ok (.enter f (c.args.map a.eval ++ #[])) w:=by
  simp[execOp,hop,resolve,hcal,hva,Deferred.ofValue,invoke,callFunc,g1,g2,g3]
 have e:=amap a.eval c.args
 unfold Oper.wp
 rw[hrun,e]
 simp only[Oper.upon]
 refine h.mono ?_
 rintro e' w' ⟨u,rfl,hn⟩
 rw[h2]
 exact hn
end
section
variable [Envs]
variable {P:Program}{C:Ctx}{a:Act}{w:World}{S:Nat->Prop}{ρ:Name->Option Nat}{κ:Name->Nat}{nt:Nat}{dr:Nat->Array Oper->Option (List Nat)}{Q:Exit->Act->World->Prop}
def zB (nt:Nat) (dr:Nat->Array Oper->Option (List Nat)):Code->Bool
 |.region _ ops draw=>!draw||(match dr nt ops with|some []=>false|_=>true)
 |.seq x y=>zB nt dr x&&zB nt dr y
 |.cond _ x y=>zB nt dr x&&zB nt dr y
 |.block _ x=>zB nt dr x
 |.loop x=>zB nt dr x
 |_=>true
def At (P:Program) (nt:Nat) (dr:Nat->Array Oper->Option (List Nat)) (ac:aD) (Q:Exit->Act->World->Prop) (a:Act) (w:World):Prop:=
 ∀c:Code,aU P nt dr c=some ac.bare->zB nt dr c=true->c.wp P Q a w
theorem At.mono {ac:aD}{Q':Exit->Act->World->Prop} (h:At P nt dr ac Q a w) (hq:∀e a w,Q e a w->Q' e a w):At P nt dr ac Q' a w:=
 λc hc hz=>Code.wp_mono hq (h c hc hz)
theorem At.seq {x y:aD} (h:At P nt dr x (Exit.then (At P nt dr y Q) Q) a w):At P nt dr (.seq x y) Q a w:=by
 intro c hc hzc
 cases c
 case seq cx cy =>
  simp only[aU,aD.bare] at hc
  split at hc
  .rename_i x' y' h1 h2
   simp only[Option.some.injEq,aD.seq.injEq] at hc
   obtain⟨rfl,rfl⟩:=hc
   simp only[zB,Bool.and_eq_true] at hzc
   refine wp_seq (Code.wp_mono (λe a w hq=>?_) (h cx h1 hzc.1))
   cases e<;>first|exact hq cy h2 hzc.2|exact hq
  .cases hc
 all_goals(simp only[aU,aD.bare] at hc;first|(cases hc;done)|(split at hc<;>simp at hc)|(simp at hc))
theorem At.block {x:aD}{id:Nat} (h:At P nt dr x (Exit.inBlock id Q) a w):At P nt dr (.block id x) Q a w:=by
 intro c hc hzc
 cases c
 case block cid cx =>
  simp only[aU,aD.bare] at hc
  cases h1:aU P nt dr cx with
  |none=>rw[h1] at hc;cases hc
  | some x' =>
   grind [wp_block,zB,At]
 all_goals(simp only[aU,aD.bare] at hc;first|(cases hc;done)|(split at hc<;>simp at hc)|(simp at hc))
theorem At.exit {id:Nat} (h:Q (.exit id) a w):At P nt dr (.exit id) Q a w:=by
 intro c hc hzc
 cases c
 case exit cid =>
  grind [aU,aD.bare,wp_exit]
 all_goals(simp only[aU,aD.bare] at hc;first|(cases hc;done)|(split at hc<;>simp at hc)|(simp at hc))
theorem At.skip (h:Q .normal a w):At P nt dr .skip Q a w:=by
 intro c hc hzc
 cases c<;>simp[aU,aD.bare] at hc
 case skip=>exact wp_skip h
 all_goals(first|(split at hc<;>simp at hc)|skip)
theorem At.ret (h:Q .ret a w):At P nt dr .ret Q a w:=by
 intro c hc hzc
 cases c
 case ret=>exact wp_ret h
 all_goals(simp only[aU,aD.bare] at hc;first|(cases hc;done)|(split at hc<;>simp at hc)|(simp at hc))
theorem At.cond {x y:aD}{co:Operand}{t:Bool} (hb:a.eval co=.bool t) (ht:t=true->At P nt dr x Q a w) (hf:t=false->At P nt dr y Q a w):At P nt dr (.cond co x y) Q a w:=by
 intro c hc hzc
 cases c
 case cond co' cx cy =>
  simp only[aU,aD.bare] at hc
  all_goals grind [zB,wp_cond_split,At]
 all_goals(simp only[aU,aD.bare] at hc;first|(cases hc;done)|(split at hc<;>simp at hc)|(simp at hc))
theorem At.loop {x:aD} (I:Nat->Act->World->Prop) (hr:∀n a w,I n a w->At P nt dr x (Exit.then (λa w=>∃m,m<n∧I m a w) Q) a w) {n:Nat} (h0:I n a w):At P nt dr (.loop x) Q a w:=by
 intro c hc hzc
 cases c
 case loop cx =>
  simp only[aU,aD.bare] at hc
  cases h1:aU P nt dr cx with
  |none=>rw[h1] at hc;cases hc
  | some x' =>
   rw[h1] at hc
   simp only[Option.map_some,Option.some.injEq,aD.loop.injEq] at hc
   subst hc
   classical
   let m:Act->World->Nat:=λa w=>if h:∃n,I n a w then(least _ h).choose else 0
   refine wp_loop (λa w=>∃n,I n a w) m ⟨n,h0⟩ ?_
   rintro a w hex
   have hI:=(least _ hex).choose_spec.1
   have hm:m a w=(least _ hex).choose:=by simp only[m,dif_pos hex]
   refine Code.wp_mono (λe a' w' hq=>?_) (hr _ a w hI cx h1 (by simpa[zB] using hzc))
   cases e
   case normal =>
    obtain⟨k,hk,hIk⟩:=hq
    have hex':∃n,I n a' w':=⟨k,hIk⟩
    all_goals grind [Exit.then]
   all_goals exact hq
 all_goals(simp only[aU,aD.bare] at hc;first|(cases hc;done)|(split at hc<;>simp at hc)|(simp at hc))
theorem At.fw {ac:aD}{N:St->Prop}{E:gP->St->Prop}{σ:St} (hdr:iO P dr) (hok:OK C σ.f a w S ρ κ) (hnt:C.nt=nt) (hv:wpc P C dr ac N E σ)
  (hN:∀a w,bK C N a w->Q .normal a w) (hE:∀i a w,bK C (E (.exit i)) a w->Q (.exit i) a w) (hR:∀a w,bK C (E .ret) a w->Q .ret a w):At P nt dr ac Q a w:=
 λc hc _=>uK hdr ac N E σ hv c Q a w S ρ κ (by rw[hnt];exact hc) hN hE hR hok
def aBN (P:Program) (nt:Nat) (post:List aH) (Q:Exit->Act->World->Prop) (a:Act) (w:World):Prop:=
 ∃(C:Ctx) (σ:St) (S:Nat->Prop) (ρ:Name->Option Nat) (κ:Name->Nat) (K:St->Prop),C.nt=nt∧OK C σ.f a w S ρ κ∧vc P K post σ∧∀a w,bK C K a w->Q .normal a w
theorem At.region {pre post:List aH}{o:aH}{out:List Nat}{σ:St} (hok:OK C σ.f a w S ρ κ) (hnt:C.nt=nt) (hg:o.guard=none)
  (hv:vc P (fun σ1=>∀(a:Act) (w:World) (S:Nat->Prop) (ρ:Name->Option Nat) (κ:Name->Nat) (op:Oper) (ops:Array Oper),OK C σ1.f a w S ρ κ->gY P nt ops op=some o.bare->op.wp P a w (aBN P nt post Q) Q) pre σ) :
  At P nt dr (.region (pre++o::post) out []) Q a w:=by
 intro c hc hzc
 cases c
 case region id ops draw =>
  simp only[aU,aD.bare] at hc
  split at hc
  .rename_i fl' hdraw
   cases ho:vD P nt ops ops.toList with
   |none=>rw[ho] at hc;cases hc
   | some l =>
    rw[ho] at hc
    simp only[Option.map_some,Option.some.injEq,aD.region.injEq,true_and] at hc
    obtain⟨hl,hfl⟩:=hc
    subst hl;subst hfl
    cases draw with
    | true =>
     grind [zB]
    | false =>
     obtain⟨g1,g2⟩:=gW ho
     have hs:∀(j:Nat) (ao:aH),(pre++o::post)[j]? = some ao->∃op,ops[j]? = some op∧gY P nt ops op=some ao.bare:=λj ao hj=>by
      grind
     refine wp_region ?_
     have hlen:ops.size=pre.length+(post.length+1):=by
      grind
     rw[List.range_eq_range',hlen]
     refine iH (C:=C) (K:=_) (e:=pre.length) (fun σ1 a w S ρ κ hK hok1=>?_) pre 0 (by omega) (λj ao hj=>?_) σ a w S ρ κ hv hok
     .obtain⟨op,h1,h2⟩:=hs pre.length o (by simp)
      obtain⟨_,_,_,h4⟩:=dR h2
      have hg2:op.guard=none:=by
       grind
      rw[List.range'_succ,wpOps_cons]
      unfold wpOp
      rw[h1]
      have:Region.wanted op (yielded ops a.tmps)=true:=by simp[Region.wanted,hg2]
      simp only[this,if_true]
      refine .inl (Oper.wp_mono (λa' w' hr=>?_) (hK a w S ρ κ op ops hok1 h2))
      obtain⟨C',σ',S',ρ',κ',K',e1,e2,e3,e4⟩:=hr
      subst e1
      have:=iH (C:=C') (P:=P) (ops:=ops) (Q:=Q) (K:=K') (e:=pre.length+1+post.length) (m:=0) (fun σ2 a2 w2 S2 ρ2 κ2 hk hok2=>by
        simp only[List.range'_zero]
        exact e4 a2 w2 ⟨σ2,S2,ρ2,κ2,hk,hok2⟩) post (pre.length+1) rfl (λj ao hj=>by
        obtain ⟨op',q1,q2⟩:=hs (pre.length+1+j) ao (by
          rw[List.getElem?_append_right (by omega),show pre.length+1+j-pre.length=j+1 by omega]
          simpa using hj)
        exact⟨op',q1,q2⟩) σ' a' w' S' ρ' κ' e3 e2
      simpa using this
     .obtain⟨op',q1,q2⟩:=hs j ao (by
        have:j<pre.length:=by
          grind
        rw[List.getElem?_append_left this];exact hj)
      all_goals grind
  .cases hc
 all_goals(simp only[aU,aD.bare] at hc;first|(cases hc;done)|(split at hc<;>simp at hc)|(simp at hc))
theorem At.halt {pre post:List aH}{out:List Nat}{σ:St} (hok:OK C σ.f a w S ρ κ) (hnt:C.nt=nt)
  (hv:vc P (fun σ1=>∀(a:Act) (w:World) (S:Nat->Prop) (ρ:Name->Option Nat) (κ:Name->Nat),OK C σ1.f a w S ρ κ->aBN P nt post Q a w) pre σ) :
  At P nt dr (.region (pre++post) out []) Q a w:=by
 intro c hc hzc
 cases c
 case region id ops draw =>
  simp only[aU,aD.bare] at hc
  split at hc
  .rename_i fl' hdraw
   cases ho:vD P nt ops ops.toList with
   |none=>rw[ho] at hc;cases hc
   | some l =>
    rw[ho] at hc
    simp only[Option.map_some,Option.some.injEq,aD.region.injEq,true_and] at hc
    obtain⟨hl,hfl⟩:=hc
    subst hl;subst hfl
    cases draw with
    | true =>
     grind [zB]
    | false =>
     obtain⟨g1,g2⟩:=gW ho
     have hs:∀(j:Nat) (ao:aH),(pre++post)[j]? = some ao->∃op,ops[j]? = some op∧gY P nt ops op=some ao.bare:=λj ao hj=>by
      grind
     refine wp_region ?_
     have hlen:ops.size=pre.length+post.length:=by
      grind
     rw[List.range_eq_range',hlen]
     refine iH (C:=C) (K:=_) (e:=pre.length) (fun σ1 a w S ρ κ hK hok1=>?_) pre 0 (by omega) (λj ao hj=>?_) σ a w S ρ κ hv hok
     .obtain⟨C',σ',S',ρ',κ',K',e1,e2,e3,e4⟩:=hK a w S ρ κ hok1
      subst e1
      have:=iH (C:=C') (P:=P) (ops:=ops) (Q:=Q) (K:=K') (e:=pre.length+post.length) (m:=0) (fun σ2 a2 w2 S2 ρ2 κ2 hk hok2=>by
        simp only[List.range'_zero]
        exact e4 a2 w2 ⟨σ2,S2,ρ2,κ2,hk,hok2⟩) post pre.length rfl (λj ao hj=>by
        obtain ⟨op',q1,q2⟩:=hs (pre.length+j) ao (by
          rw[List.getElem?_append_right (by omega),show pre.length+j-pre.length=j by omega]
          exact hj)
        exact⟨op',q1,q2⟩) σ' a w S' ρ' κ' e3 e2
      simpa using this
     .obtain⟨op',q1,q2⟩:=hs j ao (by
        have:j<pre.length:=by
          grind
        rw[List.getElem?_append_left this];exact hj)
      all_goals grind
  .cases hc
 all_goals(simp only[aU,aD.bare] at hc;first|(cases hc;done)|(split at hc<;>simp at hc)|(simp at hc))
theorem aEC {f:FuncId}{fn:Func}{body:Code}{ac:aD} (hf:P.funcs[f]? = some fn) (hb:fn.body=some body) (hc:aU P fn.ntmps dr body=some ac.bare) (hz:zB fn.ntmps dr body=true) {args:List AV} (hna:args.length<=fn.ntmps)
  {vs:Array Value} (hS:∀b,S b->b<w.heap.size) (he:Env S w) (hvs:vs.size=args.length) (hargs:∀j,j<args.length->RC S w (args.getD j .junk) (vs.getD j undef)) (M:Nat->Prop) {R:Ending->World->Prop}
  (h : ∀a,OK ⟨fn.ntmps,w,S,M,λ_=>none,λ_=>0,λ_=>none⟩ (⟨ini 0 args,[]⟩:St).f a w S (λ_=>none) (λ_=>0)->
    At P fn.ntmps dr ac (λe a' w'=>(e=.ret∨e=.normal)∧a'.defers=[]∧∃v,(results fn a'.tmps).run P w'=.ok v w'∧R (.returned v) w') a w):Calls P f vs w R:=by
 refine calls_of_wp hf hb ?_
 refine Code.wp_mono (λe a' w' hq=>?_) (h _ ?_ body hc hz)
 .obtain⟨rfl|rfl,h1,v,h2,h3⟩:=hq
  .exact⟨h1,v,h2,h3⟩
  .exact⟨h1,v,h2,h3⟩
 .refine⟨?_,rfl,λt=>?_,⟨λn b hb=>?_,λn m y hn _ _ _=>?_,hS,he⟩,Nat.le_refl _,λ_ _ _=>rfl,λn x h1 h2=>?_,λ_ h=>h,λb hb=>.inl hb,⟨rfl,rfl⟩,λj b hb=>?_⟩
  .simp only[Array.size_append,Array.size_replicate];omega
  .simp only[St.f,tY,Nat.zero_le,true_and,Nat.zero_add,Nat.sub_zero]
   split
   .rename_i ht
    have e:(vs++Array.replicate (fn.ntmps-vs.size) undef).getD t undef=vs.getD t undef:=by
     have h1:t<vs.size:=by omega
     simp[Array.getElem?_append,h1]
    rw[e]
    exact .clo (hargs t ht)
   .exact .junk _
  .simp[St.f,aA] at hb
  .simp[St.f,aA] at hn
  .simp[St.f,aA] at h1
  .simp[St.f,aA] at hb
end
section
variable [Envs]
variable {P:Program}{C:Ctx}{a:Act}{w:World}{S:Nat->Prop}{ρ:Name->Option Nat}{κ:Name->Nat}
theorem OK.know {σ:FSt} (hok:OK C σ a w S ρ κ) {t:Nat}{x:AV} (hx:RV S w ρ κ σ.h x (a.tmps.getD t undef)):OK C ⟨upd σ.s (some t) x,σ.h⟩ a w S ρ κ:=by
 refine{hok with slots:=λu=>?_}
 simp only[upd]
 by_cases hu:u=t
 .subst hu;simp only[if_true];exact hx
 .simp only[hu,if_false];exact hok.slots u
theorem OK.expose {σ:FSt} (hok:OK C σ a w S ρ κ) {n:Name}{k:Nat}{rows:List (List AV)}{z:Bool} (hb:σ.h n=some (.arr k rows z)) (hfl:∀r,r∈rows->iD r=true) {v:Value} (hv:RV S w ρ κ σ.h (.loc n 0 rows.length) v) :
  RC (λb=>ρ n=some b) w (.sl k rows) v:=by
 have hl:=d9 hv k rows z hb
 obtain⟨_,base,cap,rfl,h1,h2,h3,_⟩:=hl
 obtain⟨hrk,hblk⟩:=hok.hok.blk n _ hb
 rcases hblk with⟨hn,rfl⟩|⟨x,cs,T,fr,g1,g2,g3,_,_,g5,g6,g7⟩
 .refine .sl k [] base cap 0 0 (λ_=>undef) (by simp) (by simp) (by simp) (by simp) (by simp) ⟨by omega,h2⟩
 .refine .sl k rows base cap x 0 (λi=>cs.getD i undef) (λhne=>?_) (λi j hi hj=>?_) (λi j hi hj=>(g7 i j hi hj).1) (λi j hi hj=>?_) hrk ⟨by omega,h2⟩
  .obtain⟨y,hy,hbase⟩:=h3 (List.length_pos_iff.2 hne)
   rw[g1] at hy
   obtain rfl:=Option.some.inj hy
   exact⟨by rw[hbase];simp,g1⟩
  .have hlt:i*k+j<cs.size:=by
    have:i*k+k<=rows.length*k:=by rw[←Nat.succ_mul];exact Nat.mul_le_mul_right k hi
    omega
   simp[World.cell?,g2,hlt]
  .refine((g7 i j hi hj).2).flat ?_
   have hm:rows.getD i []∈rows:=by
    rw[List.getD_eq_getElem?_getD,List.getElem?_eq_getElem hi];exact List.getElem_mem _
   exact bB (hfl _ hm)
theorem OK.hide {σ:St} (hok:OK C σ.f a w S ρ κ) {n:Name}{k:Nat}{rows:List (List AV)} (hb:σ.f.h n=some (.arr k rows false)) (hfl:∀r,r∈rows->iD r=true) {v:Value} (hv:RV S w ρ κ σ.f.h (.loc n 0 rows.length) v) :
  OK (C.anew w S (dA n σ).f.h ρ) (dA n σ).f a w S ρ κ∧Hid (C.anew w S (dA n σ).f.h ρ) (λb=>ρ n=some b) (.sl k rows) v∧Later C (C.anew w S (dA n σ).f.h ρ):=by
 have hk:OK C (dA n σ).f a w S ρ κ:=by rw[mX];exact hok.kill n
 refine⟨hk.anew,⟨hok.expose hb hfl hv,λb h=>hok.hok.lt (n:=n) (by rw[hb];rfl) h,λb h=>⟨λhs=>?_,λhm=>?_⟩⟩,hk.later⟩
 .obtain⟨_,⟨hn,_⟩|⟨x,cs,T,fr,g1,g2,g3,g4,_⟩⟩:=hok.hok.blk n _ hb
  .rw[hn] at h;cases h
  .rw[g1] at h
   obtain rfl:=Option.some.inj h
   exact g4 rfl hs
 .obtain⟨m,h1,h2⟩:=hm
  have hmn:m≠n:=by
   rintro rfl
   rw[mX] at h1
   simp[kI] at h1
  have hs:(σ.f.h m).isSome:=by
   rw[mX] at h1
   simp only[kI,hmn,if_false] at h1
   cases hx:σ.f.h m with
   |none=>rw[hx] at h1;simp at h1
   |some b=>rfl
  exact hmn (hok.hok.inj m n b hs (by rw[hb];rfl) h2 h)
theorem Hid.later {C':Ctx}{D:Nat->Prop}{x:AV}{v:Value} (hh:Hid C D x v) {σ:FSt} (hok:OK C σ a w S ρ κ) (h0:C'.w0=w) (h1:∀b,C'.S0 b->S b) (h2:∀b,C'.Mut b->∃n,(σ.h n).isSome∧ρ n=some b):Hid C' D x v:=by
 obtain⟨g1,g2,g3,g4⟩:=hh.same hok
 refine⟨by rw[h0];exact hh.now hok,λb hb=>by rw[h0];exact g2 b hb,λb hb=>⟨λhs=>g3 b hb (h1 b hs),λhm=>?_⟩⟩
 obtain⟨n,e1,e2⟩:=h2 b hm
 exact g4 b hb n e1 e2
variable {nt:Nat}{dr:Nat->Array Oper->Option (List Nat)}{Q:Exit->Act->World->Prop}
theorem bK.le {τ:St} (h:bK C (fun σ=>LeL σ τ) a w):∃S ρ κ,OK C τ.f a w S ρ κ:=by
 obtain⟨σ,S,ρ,κ,h1,h2⟩:=h
 exact⟨S,ρ,κ,h2.le h1⟩
theorem bK.no (h:bK C (λ_=>False) a w):False:=by
 obtain⟨_,_,_,_,h,_⟩:=h
 exact h
theorem At.step {x y:aD}{σ:St} (τ:St) (hdr:iO P dr) (hok:OK C σ.f a w S ρ κ) (hnt:C.nt=nt) (hv:wpc P C dr x (fun σ'=>LeL σ' τ) (λ_ _=>False) σ)
  (h:∀(a:Act) (w:World) (S:Nat->Prop) (ρ:Name->Option Nat) (κ:Name->Nat),OK C τ.f a w S ρ κ->At P nt dr y Q a w):At P nt dr (.seq x y) Q a w:=
 At.seq (At.fw hdr hok hnt hv (λa w hg=>by obtain⟨S,ρ,κ,h1⟩:=hg.le;exact h a w S ρ κ h1) (λi a w hg=>hg.no.elim) (λa w hg=>hg.no.elim))
end
section
variable [Envs]
variable {P:Program}{C:Ctx}{a:Act}{w:World}{S:Nat->Prop}{ρ:Name->Option Nat}{κ:Name->Nat}
structure Own (S:Nat->Prop) (w:World) (x:Option Nat) (c:Nat) (k:Nat) (rows:List (List AV)) (v:Value):Prop where
 loc:rP (λ_=>x) (λ_=>c) (λ_=>some (.arr k rows false)) (.b 0) 0 rows.length v
 blk:pF S w (λ_=>x) (λ_=>c) (λ_=>some (.arr k rows false)) (.b 0) (.arr k rows false)
 fl:∀r,r∈rows->iD r=true
theorem OK.own {σ:FSt} (hok:OK C σ a w S ρ κ) {n:Name}{k:Nat}{rows:List (List AV)} (hb:σ.h n=some (.arr k rows false)) (hfl:∀r,r∈rows->iD r=true) {v:Value} (hv:RV S w ρ κ σ.h (.loc n 0 rows.length) v) :
  Own S w (ρ n) (κ n) k rows v:=by
 refine⟨λk' l' z' hl=>?_,hok.hok.blk n _ hb,hfl⟩
 obtain⟨rfl,rfl,rfl⟩:k=k'∧rows=l'∧false=z':=by simpa using hl
 exact d9 hv k rows false hb
theorem Own.mono {S':Nat->Prop}{w':World}{x:Option Nat}{c k:Nat}{rows:List (List AV)}{v:Value} (h:Own S w x c k rows v) (hS:∀b,x=some b->¬S' b) (hw:∀b,x=some b->w'.heap[b]? = w.heap[b]?):Own S' w' x c k rows v:=by
 refine⟨h.loc,?_,h.fl⟩
 obtain⟨hk,hb⟩:=h.blk
 refine⟨hk,?_⟩
 rcases hb with hb|⟨y,cs,T,fr,g1,g2,g3,g4,g4',g5,g6,g7⟩
 .exact .inl hb
 .have g1':x=some y:=g1
  refine .inr ⟨y,cs,T,fr,g1,by rw[hw y g1'];exact g2,g3,λ_=>hS y g1',λh=>(by cases h),g5,g6,λi j hi hj=>⟨(g7 i j hi hj).1,?_⟩⟩
  refine RC.mono (S:=λ_=>False) (w:=w) (λ_ h=>h.elim) (λ_ h=>h.elim) (((g7 i j hi hj).2).flat (bB (h.fl _ ?_)))
  rw[List.getD_eq_getElem?_getD,List.getElem?_eq_getElem hi];exact List.getElem_mem _
structure sI (S:Nat->Prop) (w:World) (k:Nat) (ls:List (List (List AV))) (ss:List Value) (xs:Nat->Option Nat) (cs:Nat->Nat):Prop where
 len:ls.length=ss.length
 row:∀i,i<ss.length->Own S w (xs i) (cs i) k (ls.getD i []) (ss.getD i undef)
 dif:∀i j b,i<ss.length->j<ss.length->xs i=some b->xs j=some b->i=j
theorem sI.mono {S':Nat->Prop}{w':World}{k:Nat}{ls:List (List (List AV))}{ss:List Value}{xs:Nat->Option Nat}{cs:Nat->Nat} (h:sI S w k ls ss xs cs) (hS:∀i b,i<ss.length->xs i=some b->¬S' b) (hw:∀i b,i<ss.length->xs i=some b->w'.heap[b]? = w.heap[b]?):sI S' w' k ls ss xs cs:=
 ⟨h.len,λi hi=>(h.row i hi).mono (λb hb=>hS i b hi hb) (λb hb=>hw i b hi hb),h.dif⟩
theorem sI.snoc {k:Nat}{ls:List (List (List AV))}{ss:List Value}{xs:Nat->Option Nat}{cs:Nat->Nat} (h:sI S w k ls ss xs cs) {x:Option Nat}{c:Nat}{r:List (List AV)}{s:Value} (hr:Own S w x c k r s) (hd:∀i b,i<ss.length->xs i=some b->x≠some b) :
  sI S w k (ls++[r]) (ss++[s]) (λi=>if i=ss.length then x else xs i) (λi=>if i=ss.length then c else cs i):=by
 refine⟨by simp[h.len],λi hi=>?_,λi j b hi hj h1 h2=>?_⟩
 .rcases Nat.lt_or_ge i ss.length with hlt|hge
  .have hne:i≠ss.length:=by omega
   have e1:(ls++[r]).getD i []=ls.getD i []:=by simp[List.getElem?_append_left (show i<ls.length by rw[h.len];exact hlt)]
   have e2:(ss++[s]).getD i undef=ss.getD i undef:=by simp[List.getElem?_append_left hlt]
   simp only[hne,if_false]
   rw[e1,e2]
   exact h.row i hlt
  .have hi':i=ss.length:=by simp at hi;omega
   subst hi'
   have e1:(ls++[r]).getD ss.length []=r:=by simp[←h.len]
   have e2:(ss++[s]).getD ss.length undef=s:=by simp
   simp only[if_true]
   rw[e1,e2]
   exact hr
 .simp only[List.length_append,List.length_singleton] at hi hj
  by_cases hi':i=ss.length<;>by_cases hj':j=ss.length
  .omega
  .simp only[hi',hj',if_true,if_false] at h1 h2
   exact(hd j b (by omega) h2 h1).elim
  .simp only[hi',hj',if_true,if_false] at h1 h2
   exact(hd i b (by omega) h1 h2).elim
  .simp only[hi',hj',if_false] at h1 h2
   exact h.dif i j b (by omega) (by omega) h1 h2
theorem OK.bury {σ:St} (hok:OK C σ.f a w S ρ κ) {n:Name}{k:Nat}{rows:List (List AV)} (hb:aA σ.h n=some (.arr k rows false)) (hfl:∀r,r∈rows->iD r=true) {t:Nat} (ht:look σ.s t=.agg [.loc n 0 rows.length])
  {D:Nat->Prop}{xs:List AV}{ss:List Value} (hh:Hid C D (.tup xs) (.tuple ss.toArray)) :
  ∃s C',Later C C'∧OK C' (⟨(t,.agg [.v s])::(dA n σ).s,(dA n σ).h⟩:St).f a w S ρ κ∧Hid C' (λb=>D b∨ρ n=some b) (.tup (xs++[.sl k rows])) (.tuple (ss++[s]).toArray)∧(∃b n c,s=.slice b n c)∧C'.w0=w∧C'.S0=S∧Own S w (ρ n) (κ n) k rows s:=by
 have hs:=hok.slots t
 rw[show σ.f.s t=_ from ht] at hs
 obtain⟨vs,hv,hsz,hr⟩:=lC hs
 have hr0:RV S w ρ κ σ.f.h (.loc n 0 rows.length) (vs.getD 0 undef):=hr 0 (by simp)
 obtain⟨h1,h2,h3⟩:=hok.hide hb hfl hr0
 have hx:RV S w ρ κ (dA n σ).f.h (.agg [.v (vs.getD 0 undef)]) (a.tmps.getD t undef):=by
  rw[hv]
  refine .agg _ _ hsz λj hj=>?_
  obtain rfl:j=0:=by simpa using hj
  exact .clo (.v _)
 refine⟨vs.getD 0 undef,_,h3,h1.know hx,?_⟩
 have hold:=hh.later hok (C':=C.anew w S (dA n σ).f.h ρ) rfl (λ_ h=>h) (λb hm=>by
   obtain⟨m,q1,q2⟩:=hm
   refine⟨m,?_,q2⟩
   rw[mX] at q1
   simp only[kI] at q1
   split at q1
   . cases q1
   . cases hx:σ.f.h m with
     |none=>rw[hx] at q1;cases q1
     |some b=>rfl)
 have hsl:∀{S':Nat->Prop}{w':World} (v:Value),RC S' w' (.sl k rows) v->∃b n c,v=.slice b n c:=λv h=>by
  cases h with
  |sl=>exact⟨_,_,_,rfl⟩
 refine⟨⟨?_,λb hb=>hb.elim (hold.lt b) (h2.lt b),λb hb=>hb.elim (hold.no b) (h2.no b)⟩,hsl _ h2.rd,rfl,rfl,hok.own hb hfl hr0⟩
 have g2:=h2.rd
 have g1:=hold.rd
 generalize(C.anew w S (dA n σ).f.h ρ).w0=W at g1 g2⊢
 cases g1 with
 | tup _ _ hl hr =>
  have hl':xs.length=ss.length:=by simpa using hl
  refine .tup _ _ (by simp[hl']) λj hj=>?_
  rcases Nat.lt_or_ge j xs.length with h|h
  .have e1:(xs++[AV.sl k rows]).getD j .junk=xs.getD j .junk:=by simp[List.getElem?_append_left h]
   have e2:(ss++[vs.getD 0 undef]).toArray.getD j undef=ss.toArray.getD j undef:=by simp[List.getElem?_append_left (show j<ss.length by omega)]
   rw[e1,e2]
   exact(hr j h).mono (λ_ h=>.inl h) λ_ _=>rfl
  .have hj':j=xs.length:=by simp at hj;omega
   have e1:(xs++[AV.sl k rows]).getD j .junk=.sl k rows:=by simp[hj']
   have e2:(ss++[vs.getD 0 undef]).toArray.getD j undef=vs.getD 0 undef:=by simp[hj',hl']
   rw[e1,e2]
   exact g2.mono (λ_ h=>.inr h) λ_ _=>rfl
end
section
variable [Envs]
variable {P:Program}{C:Ctx}{a:Act}{w:World}{S:Nat->Prop}{ρ:Name->Option Nat}{κ:Name->Nat}
theorem OK.hid {σ:FSt} (hok:OK C σ a w S ρ κ) {D:Nat->Prop} (h1:∀b,D b->b<w.heap.size) (h2:∀b,D b->¬S b) (h3:∀b,D b->∀n,(σ.h n).isSome->ρ n≠some b):Hid (C.anew w S σ.h ρ) D (.v undef) undef:=
 ⟨.v _,h1,λb hb=>⟨h2 b hb,λ⟨n,g1,g2⟩=>h3 b hb n g1 g2⟩⟩
theorem sI.write {w':World}{k:Nat}{ls:List (List (List AV))}{ss:List Value}{xs:Nat->Option Nat}{cs:Nat->Nat} (h:sI S w k ls ss xs cs) {i:Nat} (hi:i<ss.length) {r:List (List AV)} (hr:Own S w' (xs i) (cs i) k r (ss.getD i undef))
  (hw:∀j b,j<ss.length->xs j=some b->xs i≠some b->w'.heap[b]? = w.heap[b]?) (hS:∀j b,j<ss.length->xs j=some b->¬S b):sI S w' k (ls.set i r) ss xs cs:=by
 refine⟨by simp[h.len],λj hj=>?_,h.dif⟩
 by_cases hji:j=i
 .subst hji
  have e:(ls.set j r).getD j []=r:=by simp[show j<ls.length by rw[h.len];exact hj]
  rw[e]
  exact hr
 .have e:(ls.set i r).getD j []=ls.getD j []:=by
   simp only[List.getD_eq_getElem?_getD]
   rw[List.getElem?_set_ne (Ne.symm hji)]
  rw[e]
  exact(h.row j hj).mono (λb hb=>hS j b hj hb) λb hb=>hw j b hj hb λhx=>hji (h.dif j i b hj hi hb hx)
theorem Own.no {x:Option Nat}{c k:Nat}{rows:List (List AV)}{v:Value} (h:Own S w x c k rows v) {b:Nat} (hb:x=some b):¬S b:=by
 obtain⟨_,⟨g,_⟩|⟨y,cs,T,fr,g1,g2,g3,g4,_⟩⟩:=h.blk
 .have g':x=none:=g
  rw[g'] at hb;cases hb
 .have g1':x=some y:=g1
  rw[g1'] at hb
  obtain rfl:=Option.some.inj hb
  exact g4 rfl
theorem Fn.has {f:FuncId}{hin:List Blk}{args:List AV}{r:AV}{hout:List (Option Blk)} (h:Fn P f hin args r hout):lH P f:=h.1
end
end Go.Vs
