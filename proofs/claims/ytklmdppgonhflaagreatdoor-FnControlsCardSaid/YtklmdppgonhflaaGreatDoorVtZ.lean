/- A row that is written while its walk does not know it. -/
import Derived.Test.YtklmdppgonhflaaGreatDoorVtT
set_option linter.all false
set_option maxHeartbeats 8000000
namespace Go.Vs
section
variable [Envs]
variable {P:Program}{C:Ctx}{a:Act}{w:World}{S:Nat->Prop}{ρ:Name->Option Nat}{κ:Name->Nat}
structure Hid (C:Ctx) (D:Nat->Prop) (x:AV) (v:Value):Prop where
 rd:RC D C.w0 x v
 lt:∀b,D b->b<C.w0.heap.size
 no:∀b,D b->¬C.S0 b∧¬C.Mut b
theorem Hid.same {D:Nat->Prop}{x:AV}{v:Value} (hh:Hid C D x v) {σ:FSt} (G:OK C σ a w S ρ κ) :
  (∀b,D b->w.heap[b]? = C.w0.heap[b]?)∧(∀b,D b->b<w.heap.size)∧(∀b,D b->¬S b)∧∀b,D b->∀n,(σ.h n).isSome->ρ n≠some b:=by
 refine⟨λb F=>G.old b (hh.lt b F) (hh.no b F).2,λb F=>AZ (hh.lt b F) G.size,λb F J=>?_,λb F n I H=>?_⟩
 .have:=hh.lt b F;rcases G.Snew b J with h|h|h
  .exact(hh.no b F).1 h
  .omega
  .exact(hh.no b F).2 h
 .have:=hh.lt b F;rcases G.mine n b I H with h|h
  .omega
  .exact(hh.no b F).2 h
theorem Hid.now {D:Nat->Prop}{x:AV}{v:Value} (hh:Hid C D x v) {σ:FSt} (F:OK C σ a w S ρ κ):RC D w x v:=
 hh.rd.mono (λ_ h=>h) (λb G=>(hh.same F).1 b G)
structure Later (C C':Ctx):Prop where
 nt:C'.nt=C.nt
 size:C.w0.heap.size<=C'.w0.heap.size
 old:∀b,b<C.w0.heap.size->¬C.Mut b->C'.w0.heap[b]? = C.w0.heap[b]?
 wr:∀b,C'.Mut b->C.w0.heap.size<=b∨C.Mut b
 s0:∀b,C.S0 b->C'.S0 b
 new:∀b,C'.S0 b->C.S0 b∨C.w0.heap.size<=b∨C.Mut b
 out:C'.w0.os=C.w0.os∧C'.w0.output=C.w0.output
 base:C'.ρ0=C.ρ0∧C'.κ0=C.κ0∧C'.h0=C.h0
theorem OK.back {C':Ctx} (F:Later C C') {σ:FSt} (h:OK C' σ a w S ρ κ):OK C σ a w S ρ κ where
 nt:=h.nt.trans F.nt
 defers:=h.defers
 slots:=h.slots
 hok:=h.hok
 size:=Bl F.size h.size
 old b hb hm:=by
  rw[←F.old b hb hm];refine h.old b (AZ hb F.size) λh'=>?_;rcases F.wr b h' with h''|h''
  .omega
  .exact hm h''
 mine n x h1 h2:=by
  rcases h.mine n x h1 h2 with h'|h'
  .exact .inl (Bl F.size h')
  .exact F.wr x h'
 S0 b hb:=h.S0 b (F.s0 b hb)
 Snew b hb:=by
  rcases h.Snew b hb with h'|h'|h'
  .exact F.new b h'
  .exact .inr (.inl (Bl F.size h'))
  .exact .inr (F.wr b h')
 out:=⟨h.out.1.trans F.out.1,h.out.2.trans F.out.2⟩
 keep j b hb:=by rw[←F.base.1,←F.base.2.1,←F.base.2.2];exact h.keep j b hb
def Ctx.anew (C:Ctx) (w:World) (S:Nat->Prop) (h:Name->Option Blk) (ρ:Name->Option Nat):Ctx:=
 {C with w0:=w,S0:=S,Mut:=λb=>∃n,(h n).isSome∧ρ n=some b}
theorem OK.anew {σ:FSt} (hok:OK C σ a w S ρ κ):OK (C.anew w S σ.h ρ) σ a w S ρ κ where
 nt:=hok.nt
 defers:=hok.defers
 slots:=hok.slots
 hok:=hok.hok
 size:=Au _
 old _ _ _:=rfl
 mine n x h1 h2:=.inr ⟨n,h1,h2⟩
 S0 _ h:=h
 Snew _ h:=.inl h
 out:=⟨rfl,rfl⟩
 keep:=hok.keep
theorem OK.later {σ:FSt} (F:OK C σ a w S ρ κ):Later C (C.anew w S σ.h ρ) where
 nt:=rfl
 size:=F.size
 old:=F.old
 wr b hb:=by obtain⟨n,G,h2⟩:=hb;exact F.mine n b G h2
 s0:=F.S0
 new:=F.Snew
 out:=F.out
 base:=⟨rfl,rfl,rfl⟩
theorem Later.trans {G H I:Ctx} (h:Later G H) (h':Later H I):Later G I where
 nt:=h'.nt.trans h.nt
 size:=Bl h.size h'.size
 old b hb hm:=by
  rw[←h.old b hb hm];refine h'.old b (AZ hb h.size) λF=>?_;rcases h.wr b F with hy|hy
  .omega
  .exact hm hy
 wr b hb:=by
  rcases h'.wr b hb with F|F
  .exact .inl (Bl h.size F)
  .exact h.wr b F
 s0 b hb:=h'.s0 b (h.s0 b hb)
 new b hb:=by
  rcases h'.new b hb with F|F|F
  .exact h.new b F
  .exact .inr (.inl (Bl h.size F))
  .exact .inr (h.wr b F)
 out:=⟨h'.out.1.trans h.out.1,h'.out.2.trans h.out.2⟩
 base:=⟨h'.base.1.trans h.base.1,h'.base.2.1.trans h.base.2.1,h'.base.2.2.trans h.base.2.2⟩
theorem aJB {ρ:Name->Option Nat}{b:Nat}:¬uQ ρ [] b:=by
 intro h;simp[uQ] at h
end
section
variable [Envs]
variable {P:Program}{C:Ctx}{a:Act}{w:World}{S:Nat->Prop}{ρ:Name->Option Nat}{κ:Name->Nat}
theorem tC {ops:Array Oper}{Q:Exit->Act->World->Prop}{K:St->Prop}{e m:Nat} (J:∀(σ:St) (a:Act) (w:World) (S:Nat->Prop) (ρ:Name->Option Nat) (κ:Name->Nat),K σ->OK C σ.f a w S ρ κ->wpOps P ops Q (List.range' e m) a w) :
  ∀(aops:List aM) (k:Nat),k+aops.length=e->(∀j ao,aops[j]? = some ao->∃o,ops[k+j]? = some o∧nZ P C.nt ops o=some ao.bare)->
  ∀(σ:St) (a:Act) (w:World) (S:Nat->Prop) (ρ:Name->Option Nat) (κ:Name->Nat),vc P K aops σ->OK C σ.f a w S ρ κ->wpOps P ops Q (List.range' k (aops.length+m)) a w
 | [],k,hk,_,σ,a,w,S,ρ,κ,hv,hok=>by
  simp only[Ai,Cu,Ca] at hk⊢;subst hk;exact J σ a w S ρ κ hv hok
 | ao::r,k,hk,hs,σ,a,w,S,ρ,κ,hv,hok=>by
  obtain⟨o,ho,hc⟩:=hs 0 ao (by simp);simp only[Cu] at ho;obtain⟨h1,h2,O,h4⟩:=iQ hc;rw[show(ao::r).length+m=(r.length+m)+1 by simp only[Ac];omega,List.range'_succ,wpOps_cons]
  have Z:=tC J r (k+1) (by simp only[Ac] at hk;omega) (λj M hj=>by
    obtain⟨o',H,I⟩:=hs (j+1) M (by simpa using hj);exact⟨o',by rw[show k+1+j=k+(j+1) by omega];exact H,I⟩)
  have go:bP P ao.dst σ (vc P K r) ao.op->o.wp P a w (wpOps P ops Q (List.range' (k+1) (r.length+m))) Q:=λV =>
   Oper.wp_mono (λa' w' ⟨σ',S',ρ',κ',J,hok'⟩=>Z σ' a' w' S' ρ' κ' J hok') (wZ (P:=P) h1 hok O (by rw[h2];exact V))
  unfold wpOp;rw[ho];simp only[vc] at hv;rcases h4 with⟨H,I⟩|⟨j,F,t,H,I,g3⟩
  .rw[I] at hv;have:Region.wanted o (yielded ops a.tmps)=true:=by simp[Region.wanted,H]
   simp only[this,Bj];exact .inl (go hv)
  .rw[I] at hv;simp only at hv;split at hv
   .rename_i b U;have Y:=zW hok H g3 U;simp only[Y];by_cases G:b=F
    .simp only[G,beq_self_eq_true,Bj];exact .inl (go ((l8.1 hv).1 G))
    .have:(b==F)=false:=by simpa using G
     simp only[this,AO,Bc];have hn:b = !F:=by cases b<;>cases F<;>simp_all
     refine Z _ _ _ S ρ κ ((l8.1 hv).2 hn) ?_;have:=hok.put (x:=.v undef) (v:=undef) (.clo (.v _)) O;rw[h2] at this⊢;simpa[St.f,lI,undef] using this
   .rename_i cs U;have Y:=zV hok H g3 U;simp only[Y,AO,Bc];refine Z _ _ _ S ρ κ hv ?_;have:=hok.put (x:=.v undef) (v:=undef) (.clo (.v _)) O;rw[h2] at this⊢;simpa[St.f,lI,undef] using this
   .exact hv.elim
theorem aB2 {b:Builtin}{ts:List TypeId}{args l:List Operand}{f:Operand} (h:uM P b ts args=some (.call f l [])):False:=by
 unfold uM at h
 repeat' split at h
 all_goals simp at h
theorem aJ4 {op:Op}{f:FuncId}{args:List Operand} (h:comp P op=some (.call (.func f) args [])):∃c:Call,op=.call c∧c.callee=.value (.func f)∧args=c.args.toList:=by
 cases op
 case call c =>
  simp only[comp] at h;split at h
  .exact(aB2 h).elim
  .rename_i g F;split at h
   .split at h<;>simp at h
   .simp only[Ab,AOp.call.injEq,Operand.func.injEq,and_true] at h;exact⟨c,rfl,by rw[F,h.1],h.2.symm⟩
  .rename_i g _ F;simp only[Ab,AOp.call.injEq,and_true] at h;exact⟨c,rfl,by rw[F,h.1],h.2.symm⟩
  .cases h
 all_goals(unfold comp at h;repeat' split at h)
 all_goals first|contradiction|(simp at h;done)|(simp[A7] at h;done)
theorem amap {α β:Type} (g:α->β) (l:Array α):l.map g ++ #[]=(l.toList.map g).toArray:=by cases l;simp
theorem aIn {ops:Array Oper}{σ:FSt}{o:Oper}{ao:aM}{f:FuncId}{args:List Operand}{bor:List Nat} (hc:nZ P C.nt ops o=some ao.bare) (H:ao.op=.call (.func f) args bor) (I:OK C σ a w S ρ κ) (hb:xP P f)
  {next:Act->World->Prop}{Q:Exit->Act->World->Prop} (h:Calls P f (args.map a.eval).toArray w λe w'=>∃u,e=.returned u∧next (a.put ao.dst u) w'):o.wp P a w next Q:=by
 obtain⟨U,h2,_,_⟩:=iQ hc;rw[H] at U;obtain⟨c,J,F,rfl⟩:=aJ4 U;obtain⟨fn,b,V,Y,Z⟩:=hb;have hf:=I.ev (.func f);obtain⟨vs,M,hl,_⟩:=aDJ hf
 have O:vs=#[]:=by
  apply Array.eq_empty_of_size_eq_zero;simpa using hl.symm
 subst O
 have G:(execOp a.eval o).run P w=.ok (.enter f (c.args.map a.eval ++ #[])) w:=by
  simp[execOp,J,resolve,F,M,Deferred.ofValue,invoke,callFunc,V,Y,Z]
 have e:=amap a.eval c.args;unfold Oper.wp;rw[G,e];simp only[Oper.upon];refine h.mono ?_;rintro e' w' ⟨u,rfl,hn⟩;rw[h2];exact hn
end
section
variable [Envs]
variable {P:Program}{C:Ctx}{a:Act}{w:World}{S:Nat->Prop}{ρ:Name->Option Nat}{κ:Name->Nat}{nt:Nat}{dr:Nat->Array Oper->Option (List Nat)}{Q:Exit->Act->World->Prop}
def zB (nt:Nat) (dr:Nat->Array Oper->Option (List Nat)):Code->Bool
 |.region _ ops draw=>!draw||(match dr nt ops with|some []=>false|_=>true)
 |.seq x y=>zB nt dr x&&zB nt dr y
 |.cond _ x y=>zB nt dr x&&zB nt dr y
 |.block _ x=>zB nt dr x
 |.loop x=>zB nt dr x
 |_=>true
def At (P:Program) (nt:Nat) (dr:Nat->Array Oper->Option (List Nat)) (ac:aD) (Q:Exit->Act->World->Prop) (a:Act) (w:World):Prop:=
 ∀c:Code,bN P nt dr c=some ac.bare->zB nt dr c=true->c.wp P Q a w
theorem At.mono {ac:aD}{F:Exit->Act->World->Prop} (h:At P nt dr ac Q a w) (H:∀e a w,Q e a w->F e a w):At P nt dr ac F a w:=
 λc G I=>Code.wp_mono H (h c G I)
theorem At.seq {x y:aD} (h:At P nt dr x (Exit.then (At P nt dr y Q) Q) a w):At P nt dr (.seq x y) Q a w:=by
 intro c F G;cases c
 case seq cx cy =>
  simp only[bN,aD.bare] at F;split at F
  .rename_i J M I h2;simp only[Ab,aD.seq.injEq] at F;obtain⟨rfl,rfl⟩:=F;simp only[zB,Aw] at G;refine wp_seq (Code.wp_mono (λe a w H=>?_) (h cx I G.1));cases e<;>first|exact H cy h2 G.2|exact H
  .cases F
 all_goals(simp only[bN,aD.bare] at F;first|(cases F;done)|(split at F<;>simp at F)|(simp at F))
theorem At.block {x:aD}{G:Nat} (h:At P nt dr x (Exit.inBlock G Q) a w):At P nt dr (.block G x) Q a w:=by
 intro c F H;cases c
 case block cid cx =>
  simp only[bN,aD.bare] at F;cases h1:bN P nt dr cx with
  |none=>rw[h1] at F;cases F
  | some x' =>
   grind [wp_block,zB,At]
 all_goals(simp only[bN,aD.bare] at F;first|(cases F;done)|(split at F<;>simp at F)|(simp at F))
theorem At.ret (h:Q .ret a w):At P nt dr .ret Q a w:=by
 intro c F G;cases c
 case ret=>exact wp_ret h
 all_goals(simp only[bN,aD.bare] at F;first|(cases F;done)|(split at F<;>simp at F)|(simp at F))
theorem At.cond {x y:aD}{G:Operand}{t:Bool} (I:a.eval G=.bool t) (M:t=true->At P nt dr x Q a w) (J:t=false->At P nt dr y Q a w):At P nt dr (.cond G x y) Q a w:=by
 intro c F H;cases c
 case cond co' cx cy =>
  simp only[bN,aD.bare] at F
  all_goals grind [zB,wp_cond_split,At]
 all_goals(simp only[bN,aD.bare] at F;first|(cases F;done)|(split at F<;>simp at F)|(simp at F))
theorem At.loop {x:aD} (I:Nat->Act->World->Prop) (Z:∀n a w,I n a w->At P nt dr x (Exit.then (λa w=>∃m,m<n∧I m a w) Q) a w) {n:Nat} (V:I n a w):At P nt dr (.loop x) Q a w:=by
 intro c F J;cases c
 case loop cx =>
  simp only[bN,aD.bare] at F;cases h1:bN P nt dr cx with
  |none=>rw[h1] at F;cases F
  | some x' =>
   rw[h1] at F;simp only[AU,Ab,aD.loop.injEq] at F;subst F
   classical
   let m:Act->World->Nat:=λa w=>if h:∃n,I n a w then(least _ h).choose else 0
   refine wp_loop (λa w=>∃n,I n a w) m ⟨n,V⟩ ?_;rintro a w G;have Y:=(least _ G).choose_spec.1;have hm:m a w=(least _ G).choose:=by simp only[m,dif_pos G]
   refine Code.wp_mono (λe U w' O=>?_) (Z _ a w Y cx h1 (by simpa[zB] using J));cases e
   case normal =>
    obtain⟨k,hk,H⟩:=O;have M:∃n,I n U w':=⟨k,H⟩
    all_goals grind [Exit.then]
   all_goals exact O
 all_goals(simp only[bN,aD.bare] at F;first|(cases F;done)|(split at F<;>simp at F)|(simp at F))
theorem At.fw {ac:aD}{N:St->Prop}{E:kW->St->Prop}{σ:St} (F:lX P dr) (H:OK C σ.f a w S ρ κ) (G:C.nt=nt) (U:wpc P C dr ac N E σ)
  (J:∀a w,dV C N a w->Q .normal a w) (I:∀i a w,dV C (E (.exit i)) a w->Q (.exit i) a w) (M:∀a w,dV C (E .ret) a w->Q .ret a w):At P nt dr ac Q a w:=
 λc O _=>zU F ac N E σ U c Q a w S ρ κ (by rw[G];exact O) J I M H
def aMg (P:Program) (nt:Nat) (post:List aM) (Q:Exit->Act->World->Prop) (a:Act) (w:World):Prop:=
 ∃(C:Ctx) (σ:St) (S:Nat->Prop) (ρ:Name->Option Nat) (κ:Name->Nat) (K:St->Prop),C.nt=nt∧OK C σ.f a w S ρ κ∧vc P K post σ∧∀a w,dV C K a w->Q .normal a w
theorem At.halt {pre post:List aM}{Y:List Nat}{σ:St} (V:OK C σ.f a w S ρ κ) (hb:C.nt=nt)
  (hv:vc P (fun σ1=>∀(a:Act) (w:World) (S:Nat->Prop) (ρ:Name->Option Nat) (κ:Name->Nat),OK C σ1.f a w S ρ κ->aMg P nt post Q a w) pre σ) :
  At P nt dr (.region (pre++post) Y []) Q a w:=by
 intro c F hd;cases c
 case region id ops draw =>
  simp only[bN,aD.bare] at F;split at F
  .rename_i ha O;cases ho:aCC P nt ops ops.toList with
   |none=>rw[ho] at F;cases F
   | some l =>
    rw[ho] at F;simp only[AU,Ab,aD.region.injEq,Ck] at F;obtain⟨hl,U⟩:=F;subst hl;subst U;cases draw with
    | true =>
     grind [zB]
    | false =>
     obtain⟨g1,g2⟩:=nX ho
     have Z:∀(j:Nat) (ao:aM),(pre++post)[j]? = some ao->∃op,ops[j]? = some op∧nZ P nt ops op=some ao.bare:=λj ao M=>by
      grind
     refine wp_region ?_
     have G:ops.size=pre.length+post.length:=by
      grind
     rw[DI,G];refine tC (C:=C) (K:=_) (e:=pre.length) (fun σ1 a w S ρ κ hK H=>?_) pre 0 (by omega) (λj ao M=>?_) σ a w S ρ κ hv V
     .obtain⟨C',σ',S',ρ',κ',K',e1,e2,e3,e4⟩:=hK a w S ρ κ H;subst e1
      have:=tC (C:=C') (P:=P) (ops:=ops) (Q:=Q) (K:=K') (e:=pre.length+post.length) (m:=0) (fun σ2 a2 w2 S2 ρ2 κ2 hk I=>by
        simp only[List.range'_zero];exact e4 a2 w2 ⟨σ2,S2,ρ2,κ2,hk,I⟩) post pre.length rfl (λj ao M=>by
        obtain ⟨J,q1,q2⟩:=Z (pre.length+j) ao (by
          rw[Bi (by omega),show pre.length+j-pre.length=j by omega];exact M)
        exact⟨J,q1,q2⟩) σ' a w S' ρ' κ' e3 e2
      simpa using this
     .obtain⟨J,q1,q2⟩:=Z j ao (by
        have:j<pre.length:=by
          grind
        rw[BC this];exact M)
      all_goals grind
  .cases F
 all_goals(simp only[bN,aD.bare] at F;first|(cases F;done)|(split at F<;>simp at F)|(simp at F))
end
section
variable [Envs]
variable {P:Program}{C:Ctx}{a:Act}{w:World}{S:Nat->Prop}{ρ:Name->Option Nat}{κ:Name->Nat}
theorem OK.know {σ:FSt} (F:OK C σ a w S ρ κ) {t:Nat}{x:AV} (H:RV S w ρ κ σ.h x (a.tmps.getD t undef)):OK C ⟨upd σ.s (some t) x,σ.h⟩ a w S ρ κ:=by
 refine{F with slots:=λu=>?_};simp only[upd];by_cases G:u=t
 .subst G;simp only[Bj];exact H
 .simp only[G,Bc];exact F.slots u
theorem OK.expose {σ:FSt} (U:OK C σ a w S ρ κ) {n:Name}{k:Nat}{rows:List (List AV)}{z:Bool} (hb:σ.h n=some (.arr k rows z)) (J:∀r,r∈rows->rD r=true) {v:Value} (hv:RV S w ρ κ σ.h (.loc n 0 rows.length) v) :
  RC (λb=>ρ n=some b) w (.sl k rows) v:=by
 have hl:=iT hv k rows z hb;obtain⟨_,F,cap,rfl,h1,h2,h3,_⟩:=hl;obtain⟨V,H⟩:=U.hok.blk n _ hb;rcases H with⟨hn,rfl⟩|⟨x,cs,T,fr,Y,g2,g3,_,_,g5,g6,Z⟩
 .refine .sl k [] F cap 0 0 (λ_=>undef) (by simp) (by simp) (by simp) (by simp) (by simp) ⟨by omega,h2⟩
 .refine .sl k rows F cap x 0 (λi=>cs.getD i undef) (λO=>?_) (λi j hi I=>?_) (λi j hi I=>(Z i j hi I).1) (λi j hi I=>?_) V ⟨by omega,h2⟩
  .obtain⟨y,hy,G⟩:=h3 (BX.2 O);rw[Y] at hy;obtain rfl:=Ay hy;exact⟨by rw[G];simp,Y⟩
  .have M:i*k+j<cs.size:=by
    have:i*k+k<=rows.length*k:=by rw[←Ch];exact Bn k hi
    omega
   simp[World.cell?,g2,M]
  .refine((Z i j hi I).2).flat ?_
   have hm:rows.getD i []∈rows:=by
    rw[A8,Ba hi];exact Aa _
   exact fF (J _ hm)
theorem OK.hide {σ:St} (F:OK C σ.f a w S ρ κ) {n:Name}{k:Nat}{rows:List (List AV)} (I:σ.f.h n=some (.arr k rows false)) (J:∀r,r∈rows->rD r=true) {v:Value} (hv:RV S w ρ κ σ.f.h (.loc n 0 rows.length) v) :
  OK (C.anew w S (iR n σ).f.h ρ) (iR n σ).f a w S ρ κ∧Hid (C.anew w S (iR n σ).f.h ρ) (λb=>ρ n=some b) (.sl k rows) v∧Later C (C.anew w S (iR n σ).f.h ρ):=by
 have O:OK C (iR n σ).f a w S ρ κ:=by rw[aAi];exact F.kill n
 refine⟨O.anew,⟨F.expose I J hv,λb h=>F.hok.lt (n:=n) (by rw[I];rfl) h,λb h=>⟨λM=>?_,λY=>?_⟩⟩,O.later⟩
 .obtain⟨_,⟨Z,_⟩|⟨x,cs,T,fr,U,g2,g3,V,_⟩⟩:=F.hok.blk n _ I
  .rw[Z] at h;cases h
  .rw[U] at h;obtain rfl:=Ay h;exact V rfl M
 .obtain⟨m,G,h2⟩:=Y
  have H:m≠n:=by
   rintro rfl;rw[aAi] at G;simp[rM] at G
  have M:(σ.f.h m).isSome:=by
   rw[aAi] at G;simp only[rM,H,Bc] at G;cases hx:σ.f.h m with
   |none=>rw[hx] at G;simp at G
   |some b=>rfl
  exact H (F.hok.inj m n b M (by rw[I];rfl) h2 h)
theorem Hid.later {C':Ctx}{D:Nat->Prop}{x:AV}{v:Value} (hh:Hid C D x v) {σ:FSt} (F:OK C σ a w S ρ κ) (H:C'.w0=w) (V:∀b,C'.S0 b->S b) (h2:∀b,C'.Mut b->∃n,(σ.h n).isSome∧ρ n=some b):Hid C' D x v:=by
 obtain⟨g1,M,O,U⟩:=hh.same F;refine⟨by rw[H];exact hh.now F,λb G=>by rw[H];exact M b G,λb G=>⟨λZ=>O b G (V b Z),λY=>?_⟩⟩;obtain⟨n,I,J⟩:=h2 b Y;exact U b G n I J
variable {nt:Nat}{dr:Nat->Array Oper->Option (List Nat)}{Q:Exit->Act->World->Prop}
theorem dV.le {τ:St} (h:dV C (fun σ=>LeL σ τ) a w):∃S ρ κ,OK C τ.f a w S ρ κ:=by
 obtain⟨σ,S,ρ,κ,F,h2⟩:=h;exact⟨S,ρ,κ,h2.le F⟩
theorem dV.no (h:dV C (λ_=>False) a w):False:=by
 obtain⟨_,_,_,_,h,_⟩:=h;exact h
theorem At.step {x y:aD}{σ:St} (τ:St) (G:lX P dr) (I:OK C σ.f a w S ρ κ) (H:C.nt=nt) (M:wpc P C dr x (fun σ'=>LeL σ' τ) (λ_ _=>False) σ)
  (h:∀(a:Act) (w:World) (S:Nat->Prop) (ρ:Name->Option Nat) (κ:Name->Nat),OK C τ.f a w S ρ κ->At P nt dr y Q a w):At P nt dr (.seq x y) Q a w:=
 At.seq (At.fw G I H M (λa w F=>by obtain⟨S,ρ,κ,J⟩:=F.le;exact h a w S ρ κ J) (λi a w F=>F.no.elim) (λa w F=>F.no.elim))
end
section
variable [Envs]
variable {P:Program}{C:Ctx}{a:Act}{w:World}{S:Nat->Prop}{ρ:Name->Option Nat}{κ:Name->Nat}
structure Own (S:Nat->Prop) (w:World) (x:Option Nat) (c:Nat) (k:Nat) (rows:List (List AV)) (v:Value):Prop where
 loc:aAz (λ_=>x) (λ_=>c) (λ_=>some (.arr k rows false)) (.b 0) 0 rows.length v
 blk:xU S w (λ_=>x) (λ_=>c) (λ_=>some (.arr k rows false)) (.b 0) (.arr k rows false)
 fl:∀r,r∈rows->rD r=true
theorem OK.own {σ:FSt} (G:OK C σ a w S ρ κ) {n:Name}{k:Nat}{rows:List (List AV)} (H:σ.h n=some (.arr k rows false)) (F:∀r,r∈rows->rD r=true) {v:Value} (J:RV S w ρ κ σ.h (.loc n 0 rows.length) v) :
  Own S w (ρ n) (κ n) k rows v:=by
 refine⟨λM O U I=>?_,G.hok.blk n _ H,F⟩;obtain⟨rfl,rfl,rfl⟩:k=M∧rows=O∧false=U:=by simpa using I
 exact iT J k rows false H
theorem Own.mono {S':Nat->Prop}{w':World}{x:Option Nat}{c k:Nat}{rows:List (List AV)}{v:Value} (h:Own S w x c k rows v) (I:∀b,x=some b->¬S' b) (M:∀b,x=some b->w'.heap[b]? = w.heap[b]?):Own S' w' x c k rows v:=by
 refine⟨h.loc,?_,h.fl⟩;obtain⟨J,G⟩:=h.blk;refine⟨J,?_⟩;rcases G with G|⟨y,cs,T,fr,g1,g2,g3,g4,g4',g5,g6,g7⟩
 .exact .inl G
 .have F:x=some y:=g1;refine .inr ⟨y,cs,T,fr,g1,by rw[M y F];exact g2,g3,λ_=>I y F,λh=>(by cases h),g5,g6,λi j hi H=>⟨(g7 i j hi H).1,?_⟩⟩;refine RC.mono (S:=λ_=>False) (w:=w) (λ_ h=>h.elim) (λ_ h=>h.elim) (((g7 i j hi H).2).flat (fF (h.fl _ ?_)));rw[A8,Ba hi];exact Aa _
structure aCD (S:Nat->Prop) (w:World) (k:Nat) (ls:List (List (List AV))) (ss:List Value) (xs:Nat->Option Nat) (cs:Nat->Nat):Prop where
 len:ls.length=ss.length
 row:∀i,i<ss.length->Own S w (xs i) (cs i) k (ls.getD i []) (ss.getD i undef)
 dif:∀i j b,i<ss.length->j<ss.length->xs i=some b->xs j=some b->i=j
theorem aCD.mono {S':Nat->Prop}{w':World}{k:Nat}{ls:List (List (List AV))}{F:List Value}{xs:Nat->Option Nat}{cs:Nat->Nat} (h:aCD S w k ls F xs cs) (H:∀i b,i<F.length->xs i=some b->¬S' b) (I:∀i b,i<F.length->xs i=some b->w'.heap[b]? = w.heap[b]?):aCD S' w' k ls F xs cs:=
 ⟨h.len,λi hi=>(h.row i hi).mono (λb G=>H i b hi G) (λb G=>I i b hi G),h.dif⟩
theorem aCD.snoc {k:Nat}{ls:List (List (List AV))}{F:List Value}{xs:Nat->Option Nat}{cs:Nat->Nat} (h:aCD S w k ls F xs cs) {x:Option Nat}{c:Nat}{r:List (List AV)}{s:Value} (Y:Own S w x c k r s) (U:∀i b,i<F.length->xs i=some b->x≠some b) :
  aCD S w k (ls++[r]) (F++[s]) (λi=>if i=F.length then x else xs i) (λi=>if i=F.length then c else cs i):=by
 refine⟨by simp[h.len],λi hi=>?_,λi j b hi V I h2=>?_⟩
 .rcases Db i F.length with hlt|hge
  .have O:i≠F.length:=by omega
   have J:(ls++[r]).getD i []=ls.getD i []:=by simp[BC (show i<ls.length by rw[h.len];exact hlt)]
   have M:(F++[s]).getD i undef=F.getD i undef:=by simp[BC hlt]
   simp only[O,Bc];rw[J,M];exact h.row i hlt
  .have G:i=F.length:=by simp at hi;omega
   subst G;have J:(ls++[r]).getD F.length []=r:=by simp[←h.len]
   have M:(F++[s]).getD F.length undef=s:=by simp
   simp only[Bj];rw[J,M];exact Y
 .simp only[AX,Cf] at hi V;by_cases G:i=F.length<;>by_cases H:j=F.length
  .omega
  .simp only[G,H,Bj,Bc] at I h2;exact(U j b (by omega) h2 I).elim
  .simp only[G,H,Bj,Bc] at I h2;exact(U i b (by omega) I h2).elim
  .simp only[G,H,Bc] at I h2;exact h.dif i j b (by omega) (by omega) I h2
theorem OK.bury {σ:St} (G:OK C σ.f a w S ρ κ) {n:Name}{k:Nat}{rows:List (List AV)} (I:aB σ.h n=some (.arr k rows false)) (M:∀r,r∈rows->rD r=true) {t:Nat} (ht:look σ.s t=.agg [.loc n 0 rows.length])
  {D:Nat->Prop}{xs:List AV}{H:List Value} (hh:Hid C D (.tup xs) (.tuple H.toArray)) :
  ∃s C',Later C C'∧OK C' (⟨(t,.agg [.v s])::(iR n σ).s,(iR n σ).h⟩:St).f a w S ρ κ∧Hid C' (λb=>D b∨ρ n=some b) (.tup (xs++[.sl k rows])) (.tuple (H++[s]).toArray)∧(∃b n c,s=.slice b n c)∧C'.w0=w∧C'.S0=S∧Own S w (ρ n) (κ n) k rows s:=by
 have hs:=G.slots t;rw[show σ.f.s t=_ from ht] at hs;obtain⟨vs,hv,hc,hr⟩:=rW hs;have V:RV S w ρ κ σ.f.h (.loc n 0 rows.length) (vs.getD 0 undef):=hr 0 (by simp);obtain⟨h1,h2,h3⟩:=G.hide I M V
 have hx:RV S w ρ κ (iR n σ).f.h (.agg [.v (vs.getD 0 undef)]) (a.tmps.getD t undef):=by
  rw[hv];refine .agg _ _ hc λj hj=>?_;obtain rfl:j=0:=by simpa using hj
  exact .clo (.v _)
 refine⟨vs.getD 0 undef,_,h3,h1.know hx,?_⟩
 have F:=hh.later G (C':=C.anew w S (iR n σ).f.h ρ) rfl (λ_ h=>h) (λb hm=>by
   obtain⟨m,J,q2⟩:=hm;refine⟨m,?_,q2⟩;rw[aAi] at J;simp only[rM] at J;split at J
   . cases J
   . cases hx:σ.f.h m with
     |none=>rw[hx] at J;cases J
     |some b=>rfl)
 have ha:∀{S':Nat->Prop}{w':World} (v:Value),RC S' w' (.sl k rows) v->∃b n c,v=.slice b n c:=λv h=>by
  cases h with
  |sl=>exact⟨_,_,_,rfl⟩
 refine⟨⟨?_,λb I=>I.elim (F.lt b) (h2.lt b),λb I=>I.elim (F.no b) (h2.no b)⟩,ha _ h2.rd,rfl,rfl,G.own I M V⟩;have g2:=h2.rd;have g1:=F.rd;generalize(C.anew w S (iR n σ).f.h ρ).w0=W at g1 g2⊢;cases g1 with
 | tup _ _ hl hr =>
  have U:xs.length=H.length:=by simpa using hl
  refine .tup _ _ (by simp[U]) λj hj=>?_;rcases Db j xs.length with h|h
  .have Y:(xs++[AV.sl k rows]).getD j .junk=xs.getD j .junk:=by simp[BC h]
   have Z:(H++[vs.getD 0 undef]).toArray.getD j undef=H.toArray.getD j undef:=by simp[BC (show j<H.length by omega)]
   rw[Y,Z];exact(hr j h).mono (λ_ h=>.inl h) λ_ _=>rfl
  .have O:j=xs.length:=by simp at hj;omega
   have Y:(xs++[AV.sl k rows]).getD j .junk=.sl k rows:=by simp[O]
   have Z:(H++[vs.getD 0 undef]).toArray.getD j undef=vs.getD 0 undef:=by simp[O,U]
   rw[Y,Z];exact g2.mono (λ_ h=>.inr h) λ_ _=>rfl
end
section
variable [Envs]
variable {P:Program}{C:Ctx}{a:Act}{w:World}{S:Nat->Prop}{ρ:Name->Option Nat}{κ:Name->Nat}
theorem OK.hid {σ:FSt} (M:OK C σ a w S ρ κ) {D:Nat->Prop} (I:∀b,D b->b<w.heap.size) (h2:∀b,D b->¬S b) (J:∀b,D b->∀n,(σ.h n).isSome->ρ n≠some b):Hid (C.anew w S σ.h ρ) D (.v undef) undef:=
 ⟨.v _,I,λb F=>⟨h2 b F,λ⟨n,G,H⟩=>J b F n G H⟩⟩
theorem Fn.has {f:FuncId}{hin:List Blk}{args:List AV}{r:AV}{hout:List (Option Blk)} (h:Fn P f hin args r hout):xP P f:=h.1
end
end Go.Vs
