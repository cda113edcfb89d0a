/- A row that is written while its walk does not know it. -/
import Derived.Test.YtmiiohemehacjaaGreatDoorVtT
set_option linter.all false
set_option maxHeartbeats 8000000
namespace Go.Vs
section
variable [Envs]
variable {P:Program}{C:Ctx}{a:Act}{w:World}{S:Nat->Prop}{ρ:Name->Option Nat}{κ:Name->Nat}
structure Hid (C:Ctx) (D:Nat->Prop) (x:AV) (v:Value):Prop where
 rd:RC D C.w0 x v
 lt:∀b,D b->b<C.w0.heap.size
 no:∀b,D b->¬C.S0 b∧¬C.Mut b
theorem Hid.same {D:Nat->Prop}{x:AV}{v:Value} (hh:Hid C D x v) {σ:FSt} (F:OK C σ a w S ρ κ) :
  (∀b,D b->w.heap[b]? = C.w0.heap[b]?)∧(∀b,D b->b<w.heap.size)∧(∀b,D b->¬S b)∧∀b,D b->∀n,(σ.h n).isSome->ρ n≠some b:=by
 refine⟨λb u=>F.old b (hh.lt b u) (hh.no b u).2,λb u=>BR (hh.lt b u) F.size,λb u I=>?_,λb u n H G=>?_⟩
 .have:=hh.lt b u;rcases F.Snew b I with h|h|h
  .exact(hh.no b u).1 h
  .omega
  .exact(hh.no b u).2 h
 .have:=hh.lt b u;rcases F.mine n b H G with h|h
  .omega
  .exact(hh.no b u).2 h
theorem Hid.now {D:Nat->Prop}{x:AV}{v:Value} (hh:Hid C D x v) {σ:FSt} (u:OK C σ a w S ρ κ):RC D w x v:=
 hh.rd.mono (λ_ h=>h) (λb F=>(hh.same u).1 b F)
structure Later (C C':Ctx):Prop where
 nt:C'.nt=C.nt
 size:C.w0.heap.size<=C'.w0.heap.size
 old:∀b,b<C.w0.heap.size->¬C.Mut b->C'.w0.heap[b]? = C.w0.heap[b]?
 wr:∀b,C'.Mut b->C.w0.heap.size<=b∨C.Mut b
 s0:∀b,C.S0 b->C'.S0 b
 new:∀b,C'.S0 b->C.S0 b∨C.w0.heap.size<=b∨C.Mut b
 out:C'.w0.os=C.w0.os∧C'.w0.output=C.w0.output
 base:C'.ρ0=C.ρ0∧C'.κ0=C.κ0∧C'.h0=C.h0
theorem OK.back {C':Ctx} (u:Later C C') {σ:FSt} (h:OK C' σ a w S ρ κ):OK C σ a w S ρ κ where
 nt:=h.nt.trans u.nt
 defers:=h.defers
 slots:=h.slots
 hok:=h.hok
 size:=BJ u.size h.size
 old b hb hm:=by
  rw[←u.old b hb hm];refine h.old b (BR hb u.size) λh'=>?_;rcases u.wr b h' with h''|h''
  .omega
  .exact hm h''
 mine n x h1 h2:=by
  rcases h.mine n x h1 h2 with h'|h'
  .exact .inl (BJ u.size h')
  .exact u.wr x h'
 S0 b hb:=h.S0 b (u.s0 b hb)
 Snew b hb:=by
  rcases h.Snew b hb with h'|h'|h'
  .exact u.new b h'
  .exact .inr (.inl (BJ u.size h'))
  .exact .inr (u.wr b h')
 out:=⟨h.out.1.trans u.out.1,h.out.2.trans u.out.2⟩
 keep j b hb:=by rw[←u.base.1,←u.base.2.1,←u.base.2.2];exact h.keep j b hb
def Ctx.anew (C:Ctx) (w:World) (S:Nat->Prop) (h:Name->Option Blk) (ρ:Name->Option Nat):Ctx:=
 {C with w0:=w,S0:=S,Mut:=λb=>∃n,(h n).isSome∧ρ n=some b}
theorem OK.anew {σ:FSt} (hok:OK C σ a w S ρ κ):OK (C.anew w S σ.h ρ) σ a w S ρ κ where
 nt:=hok.nt
 defers:=hok.defers
 slots:=hok.slots
 hok:=hok.hok
 size:=AL _
 old _ _ _:=rfl
 mine n x h1 h2:=.inr ⟨n,h1,h2⟩
 S0 _ h:=h
 Snew _ h:=.inl h
 out:=⟨rfl,rfl⟩
 keep:=hok.keep
theorem OK.later {σ:FSt} (u:OK C σ a w S ρ κ):Later C (C.anew w S σ.h ρ) where
 nt:=rfl
 size:=u.size
 old:=u.old
 wr b hb:=by obtain⟨n,F,h2⟩:=hb;exact u.mine n b F h2
 s0:=u.S0
 new:=u.Snew
 out:=u.out
 base:=⟨rfl,rfl,rfl⟩
theorem Later.trans {F G H:Ctx} (h:Later F G) (h':Later G H):Later F H where
 nt:=h'.nt.trans h.nt
 size:=BJ h.size h'.size
 old b hb hm:=by
  rw[←h.old b hb hm];refine h'.old b (BR hb h.size) λu=>?_;rcases h.wr b u with hy|hy
  .omega
  .exact hm hy
 wr b hb:=by
  rcases h'.wr b hb with u|u
  .exact .inl (BJ h.size u)
  .exact h.wr b u
 s0 b hb:=h'.s0 b (h.s0 b hb)
 new b hb:=by
  rcases h'.new b hb with u|u|u
  .exact h.new b u
  .exact .inr (.inl (BJ h.size u))
  .exact .inr (h.wr b u)
 out:=⟨h'.out.1.trans h.out.1,h'.out.2.trans h.out.2⟩
 base:=⟨h'.base.1.trans h.base.1,h'.base.2.1.trans h.base.2.1,h'.base.2.2.trans h.base.2.2⟩
theorem aD3 {ρ:Name->Option Nat}{b:Nat}:¬sO ρ [] b:=by
 intro h;simp[sO] at h
end
section
variable [Envs]
variable {P:Program}{C:Ctx}{a:Act}{w:World}{S:Nat->Prop}{ρ:Name->Option Nat}{κ:Name->Nat}
theorem rO {ops:Array Oper}{Q:Exit->Act->World->Prop}{K:St->Prop}{e m:Nat} (I:∀(σ:St) (a:Act) (w:World) (S:Nat->Prop) (ρ:Name->Option Nat) (κ:Name->Nat),K σ->OK C σ.f a w S ρ κ->wpOps P ops Q (List.range' e m) a w) :
  ∀(aops:List aL) (k:Nat),k+aops.length=e->(∀j ao,aops[j]? = some ao->∃o,ops[k+j]? = some o∧nA P C.nt ops o=some ao.bare)->
  ∀(σ:St) (a:Act) (w:World) (S:Nat->Prop) (ρ:Name->Option Nat) (κ:Name->Nat),vc P K aops σ->OK C σ.f a w S ρ κ->wpOps P ops Q (List.range' k (aops.length+m)) a w
 | [],k,hk,_,σ,a,w,S,ρ,κ,hv,hok=>by
  simp only[Ab,Cg,BF] at hk⊢;subst hk;exact I σ a w S ρ κ hv hok
 | ao::r,k,hk,hs,σ,a,w,S,ρ,κ,hv,hok=>by
  obtain⟨o,ho,hc⟩:=hs 0 ao (by simp);simp only[Cg] at ho;obtain⟨h1,h2,L,h4⟩:=iJ hc;rw[show(ao::r).length+m=(r.length+m)+1 by simp only[Aa];omega,List.range'_succ,wpOps_cons]
  have V:=rO I r (k+1) (by simp only[Aa] at hk;omega) (λj J hj=>by
    obtain⟨o',G,H⟩:=hs (j+1) J (by simpa using hj);exact⟨o',by rw[show k+1+j=k+(j+1) by omega];exact G,H⟩)
  have Z:bN P ao.dst σ (vc P K r) ao.op->o.wp P a w (wpOps P ops Q (List.range' (k+1) (r.length+m))) Q:=λO =>
   Oper.wp_mono (λa' w' ⟨σ',S',ρ',κ',I,hok'⟩=>V σ' a' w' S' ρ' κ' I hok') (vU (P:=P) h1 hok L (by rw[h2];exact O))
  unfold wpOp;rw[ho];simp only[vc] at hv;rcases h4 with⟨G,H⟩|⟨j,u,t,G,H,Y⟩
  .rw[H] at hv;have:Region.wanted o (yielded ops a.tmps)=true:=by simp[Region.wanted,G]
   simp only[this,Bt];exact .inl (Z hv)
  .rw[H] at hv;simp only at hv;split at hv
   .rename_i b M;have U:=yO hok G Y M;simp only[U];by_cases F:b=u
    .simp only[F,Dj,Bt];exact .inl (Z ((lG.1 hv).1 F))
    .have:(b==u)=false:=by simpa using F
     simp only[this,A8,Bg];have hn:b = !u:=by cases b<;>cases u<;>simp_all
     refine V _ _ _ S ρ κ ((lG.1 hv).2 hn) ?_;have:=hok.put (x:=.v undef) (v:=undef) (.clo (.v _)) L;rw[h2] at this⊢;simpa[St.f,kH,undef] using this
   .rename_i cs M;have U:=yN hok G Y M;simp only[U,A8,Bg];refine V _ _ _ S ρ κ hv ?_;have:=hok.put (x:=.v undef) (v:=undef) (.clo (.v _)) L;rw[h2] at this⊢;simpa[St.f,kH,undef] using this
   .exact hv.elim
theorem aBE {b:Builtin}{u:List TypeId}{args l:List Operand}{f:Operand} (h:tJ P b u args=some (.call f l [])):False:=by
 unfold tJ at h
 repeat' split at h
 all_goals simp at h
theorem aIX {op:Op}{f:FuncId}{args:List Operand} (h:comp P op=some (.call (.func f) args [])):∃c:Call,op=.call c∧c.callee=.value (.func f)∧args=c.args.toList:=by
 cases op
 case call c =>
  simp only[comp] at h;split at h
  .exact(aBE h).elim
  .rename_i g u;split at h
   .split at h<;>simp at h
   .simp only[Aj,AOp.call.injEq,Operand.func.injEq,and_true] at h;exact⟨c,rfl,by rw[u,h.1],h.2.symm⟩
  .rename_i g _ u;simp only[Aj,AOp.call.injEq,and_true] at h;exact⟨c,rfl,by rw[u,h.1],h.2.symm⟩
  .cases h
 all_goals(unfold comp at h;repeat' split at h)
 all_goals first|contradiction|(simp at h;done)|(simp[Ca] at h;done)
theorem amap {α β:Type} (g:α->β) (l:Array α):l.map g ++ #[]=(l.toList.map g).toArray:=by cases l;simp
theorem aHw {ops:Array Oper}{σ:FSt}{o:Oper}{ao:aL}{f:FuncId}{args:List Operand}{bor:List Nat} (hc:nA P C.nt ops o=some ao.bare) (H:ao.op=.call (.func f) args bor) (I:OK C σ a w S ρ κ) (Z:wP P f)
  {next:Act->World->Prop}{Q:Exit->Act->World->Prop} (h:Calls P f (args.map a.eval).toArray w λe w'=>∃u,e=.returned u∧next (a.put ao.dst u) w'):o.wp P a w next Q:=by
 obtain⟨O,h2,_,_⟩:=iJ hc;rw[H] at O;obtain⟨c,J,F,rfl⟩:=aIX O;obtain⟨fn,b,U,V,Y⟩:=Z;have hf:=I.ev (.func f);obtain⟨vs,L,hl,_⟩:=aDi hf
 have M:vs=#[]:=by
  apply Array.eq_empty_of_size_eq_zero;simpa using hl.symm
 subst M
 have G:(execOp a.eval o).run P w=.ok (.enter f (c.args.map a.eval ++ #[])) w:=by
  simp[execOp,J,resolve,F,L,Deferred.ofValue,invoke,callFunc,U,V,Y]
 have e:=amap a.eval c.args;unfold Oper.wp;rw[G,e];simp only[Oper.upon];refine h.mono ?_;rintro e' w' ⟨u,rfl,hn⟩;rw[h2];exact hn
end
section
variable [Envs]
variable {P:Program}{C:Ctx}{a:Act}{w:World}{S:Nat->Prop}{ρ:Name->Option Nat}{κ:Name->Nat}{nt:Nat}{dr:Nat->Array Oper->Option (List Nat)}{Q:Exit->Act->World->Prop}
def zB (nt:Nat) (dr:Nat->Array Oper->Option (List Nat)):Code->Bool
 |.region _ ops draw=>!draw||(match dr nt ops with|some []=>false|_=>true)
 |.seq x y=>zB nt dr x&&zB nt dr y
 |.cond _ x y=>zB nt dr x&&zB nt dr y
 |.block _ x=>zB nt dr x
 |.loop x=>zB nt dr x
 |_=>true
def At (P:Program) (nt:Nat) (dr:Nat->Array Oper->Option (List Nat)) (ac:aF) (Q:Exit->Act->World->Prop) (a:Act) (w:World):Prop:=
 ∀c:Code,bM P nt dr c=some ac.bare->zB nt dr c=true->c.wp P Q a w
theorem At.mono {ac:aF}{u:Exit->Act->World->Prop} (h:At P nt dr ac Q a w) (G:∀e a w,Q e a w->u e a w):At P nt dr ac u a w:=
 λc F H=>Code.wp_mono G (h c F H)
theorem At.seq {x y:aF} (h:At P nt dr x (Exit.then (At P nt dr y Q) Q) a w):At P nt dr (.seq x y) Q a w:=by
 intro c u F;cases c
 case seq cx cy =>
  simp only[bM,aF.bare] at u;split at u
  .rename_i I J H h2;simp only[Aj,aF.seq.injEq] at u;obtain⟨rfl,rfl⟩:=u;simp only[zB,Au] at F;refine wp_seq (Code.wp_mono (λe a w G=>?_) (h cx H F.1));cases e<;>first|exact G cy h2 F.2|exact G
  .cases u
 all_goals(simp only[bM,aF.bare] at u;first|(cases u;done)|(split at u<;>simp at u)|(simp at u))
theorem At.block {x:aF}{F:Nat} (h:At P nt dr x (Exit.inBlock F Q) a w):At P nt dr (.block F x) Q a w:=by
 intro c u G;cases c
 case block cid cx =>
  simp only[bM,aF.bare] at u;cases h1:bM P nt dr cx with
  |none=>rw[h1] at u;cases u
  | some x' =>
   grind [wp_block,zB,At]
 all_goals(simp only[bM,aF.bare] at u;first|(cases u;done)|(split at u<;>simp at u)|(simp at u))
theorem At.exit {F:Nat} (h:Q (.exit F) a w):At P nt dr (.exit F) Q a w:=by
 intro c u G;cases c
 case exit cid =>
  grind [bM,aF.bare,wp_exit]
 all_goals(simp only[bM,aF.bare] at u;first|(cases u;done)|(split at u<;>simp at u)|(simp at u))
theorem At.skip (h:Q .normal a w):At P nt dr .skip Q a w:=by
 intro c u F;cases c<;>simp[bM,aF.bare] at u
 case skip=>exact wp_skip h
 all_goals(first|(split at u<;>simp at u)|skip)
theorem At.ret (h:Q .ret a w):At P nt dr .ret Q a w:=by
 intro c u F;cases c
 case ret=>exact wp_ret h
 all_goals(simp only[bM,aF.bare] at u;first|(cases u;done)|(split at u<;>simp at u)|(simp at u))
theorem At.cond {x y:aF}{F:Operand}{t:Bool} (H:a.eval F=.bool t) (J:t=true->At P nt dr x Q a w) (I:t=false->At P nt dr y Q a w):At P nt dr (.cond F x y) Q a w:=by
 intro c u G;cases c
 case cond co' cx cy =>
  simp only[bM,aF.bare] at u
  all_goals grind [zB,wp_cond_split,At]
 all_goals(simp only[bM,aF.bare] at u;first|(cases u;done)|(split at u<;>simp at u)|(simp at u))
theorem At.loop {x:aF} (I:Nat->Act->World->Prop) (V:∀n a w,I n a w->At P nt dr x (Exit.then (λa w=>∃m,m<n∧I m a w) Q) a w) {n:Nat} (O:I n a w):At P nt dr (.loop x) Q a w:=by
 intro c u H;cases c
 case loop cx =>
  simp only[bM,aF.bare] at u;cases h1:bM P nt dr cx with
  |none=>rw[h1] at u;cases u
  | some x' =>
   rw[h1] at u;simp only[Ba,Aj,aF.loop.injEq] at u;subst u
   classical
   let m:Act->World->Nat:=λa w=>if h:∃n,I n a w then(least _ h).choose else 0
   refine wp_loop (λa w=>∃n,I n a w) m ⟨n,O⟩ ?_;rintro a w F;have U:=(least _ F).choose_spec.1;have Z:m a w=(least _ F).choose:=by simp only[m,dif_pos F]
   refine Code.wp_mono (λe M w' L=>?_) (V _ a w U cx h1 (by simpa[zB] using H));cases e
   case normal =>
    obtain⟨k,Y,G⟩:=L;have J:∃n,I n M w':=⟨k,G⟩
    all_goals grind [Exit.then]
   all_goals exact L
 all_goals(simp only[bM,aF.bare] at u;first|(cases u;done)|(split at u<;>simp at u)|(simp at u))
theorem At.fw {ac:aF}{N:St->Prop}{E:kT->St->Prop}{σ:St} (u:lL P dr) (G:OK C σ.f a w S ρ κ) (F:C.nt=nt) (M:wpc P C dr ac N E σ)
  (I:∀a w,dP C N a w->Q .normal a w) (H:∀i a w,dP C (E (.exit i)) a w->Q (.exit i) a w) (J:∀a w,dP C (E .ret) a w->Q .ret a w):At P nt dr ac Q a w:=
 λc L _=>uE u ac N E σ M c Q a w S ρ κ (by rw[F];exact L) I H J G
def aKZ (P:Program) (nt:Nat) (post:List aL) (Q:Exit->Act->World->Prop) (a:Act) (w:World):Prop:=
 ∃(C:Ctx) (σ:St) (S:Nat->Prop) (ρ:Name->Option Nat) (κ:Name->Nat) (K:St->Prop),C.nt=nt∧OK C σ.f a w S ρ κ∧vc P K post σ∧∀a w,dP C K a w->Q .normal a w
theorem At.region {pre post:List aL}{o:aL}{Y:List Nat}{σ:St} (U:OK C σ.f a w S ρ κ) (hb:C.nt=nt) (hg:o.guard=none)
  (hv:vc P (fun σ1=>∀(a:Act) (w:World) (S:Nat->Prop) (ρ:Name->Option Nat) (κ:Name->Nat) (op:Oper) (ops:Array Oper),OK C σ1.f a w S ρ κ->nA P nt ops op=some o.bare->op.wp P a w (aKZ P nt post Q) Q) pre σ) :
  At P nt dr (.region (pre++o::post) Y []) Q a w:=by
 intro c u hd;cases c
 case region id ops draw =>
  simp only[bM,aF.bare] at u;split at u
  .rename_i ha L;cases ho:aCg P nt ops ops.toList with
   |none=>rw[ho] at u;cases u
   | some l =>
    rw[ho] at u;simp only[Ba,Aj,aF.region.injEq,Ci] at u;obtain⟨hl,M⟩:=u;subst hl;subst M;cases draw with
    | true =>
     grind [zB]
    | false =>
     obtain⟨g1,g2⟩:=mZ ho
     have V:∀(j:Nat) (ao:aL),(pre++o::post)[j]? = some ao->∃op,ops[j]? = some op∧nA P nt ops op=some ao.bare:=λj ao J=>by
      grind
     refine wp_region ?_
     have F:ops.size=pre.length+(post.length+1):=by
      grind
     rw[List.range_eq_range',F];refine rO (C:=C) (K:=_) (e:=pre.length) (fun σ1 a w S ρ κ hK G=>?_) pre 0 (by omega) (λj ao J=>?_) σ a w S ρ κ hv U
     .obtain⟨op,h1,h2⟩:=V pre.length o (by simp);obtain⟨_,_,_,h4⟩:=iJ h2
      have O:op.guard=none:=by
       grind
      rw[List.range'_succ,wpOps_cons];unfold wpOp;rw[h1];have:Region.wanted op (yielded ops a.tmps)=true:=by simp[Region.wanted,O]
      simp only[this,Bt];refine .inl (Oper.wp_mono (λa' w' hr=>?_) (hK a w S ρ κ op ops G h2));obtain⟨C',σ',S',ρ',κ',K',e1,e2,e3,e4⟩:=hr;subst e1
      have:=rO (C:=C') (P:=P) (ops:=ops) (Q:=Q) (K:=K') (e:=pre.length+1+post.length) (m:=0) (fun σ2 a2 w2 S2 ρ2 κ2 hk H=>by
        simp only[List.range'_zero];exact e4 a2 w2 ⟨σ2,S2,ρ2,κ2,hk,H⟩) post (pre.length+1) rfl (λj ao J=>by
        obtain ⟨I,Z,q2⟩:=V (pre.length+1+j) ao (by
          rw[Bv (by omega),show pre.length+1+j-pre.length=j+1 by omega];simpa using J)
        exact⟨I,Z,q2⟩) σ' a' w' S' ρ' κ' e3 e2
      simpa using this
     .obtain⟨I,Z,q2⟩:=V j ao (by
        have:j<pre.length:=by
          grind
        rw[BB this];exact J)
      all_goals grind
  .cases u
 all_goals(simp only[bM,aF.bare] at u;first|(cases u;done)|(split at u<;>simp at u)|(simp at u))
theorem At.halt {pre post:List aL}{U:List Nat}{σ:St} (O:OK C σ.f a w S ρ κ) (hb:C.nt=nt)
  (hv:vc P (fun σ1=>∀(a:Act) (w:World) (S:Nat->Prop) (ρ:Name->Option Nat) (κ:Name->Nat),OK C σ1.f a w S ρ κ->aKZ P nt post Q a w) pre σ) :
  At P nt dr (.region (pre++post) U []) Q a w:=by
 intro c u hd;cases c
 case region id ops draw =>
  simp only[bM,aF.bare] at u;split at u
  .rename_i ha L;cases ho:aCg P nt ops ops.toList with
   |none=>rw[ho] at u;cases u
   | some l =>
    rw[ho] at u;simp only[Ba,Aj,aF.region.injEq,Ci] at u;obtain⟨hl,M⟩:=u;subst hl;subst M;cases draw with
    | true =>
     grind [zB]
    | false =>
     obtain⟨g1,g2⟩:=mZ ho
     have V:∀(j:Nat) (ao:aL),(pre++post)[j]? = some ao->∃op,ops[j]? = some op∧nA P nt ops op=some ao.bare:=λj ao J=>by
      grind
     refine wp_region ?_
     have F:ops.size=pre.length+post.length:=by
      grind
     rw[List.range_eq_range',F];refine rO (C:=C) (K:=_) (e:=pre.length) (fun σ1 a w S ρ κ hK G=>?_) pre 0 (by omega) (λj ao J=>?_) σ a w S ρ κ hv O
     .obtain⟨C',σ',S',ρ',κ',K',e1,e2,e3,e4⟩:=hK a w S ρ κ G;subst e1
      have:=rO (C:=C') (P:=P) (ops:=ops) (Q:=Q) (K:=K') (e:=pre.length+post.length) (m:=0) (fun σ2 a2 w2 S2 ρ2 κ2 hk H=>by
        simp only[List.range'_zero];exact e4 a2 w2 ⟨σ2,S2,ρ2,κ2,hk,H⟩) post pre.length rfl (λj ao J=>by
        obtain ⟨I,Y,Z⟩:=V (pre.length+j) ao (by
          rw[Bv (by omega),show pre.length+j-pre.length=j by omega];exact J)
        exact⟨I,Y,Z⟩) σ' a w S' ρ' κ' e3 e2
      simpa using this
     .obtain⟨I,Y,Z⟩:=V j ao (by
        have:j<pre.length:=by
          grind
        rw[BB this];exact J)
      all_goals grind
  .cases u
 all_goals(simp only[bM,aF.bare] at u;first|(cases u;done)|(split at u<;>simp at u)|(simp at u))
end
section
variable [Envs]
variable {P:Program}{C:Ctx}{a:Act}{w:World}{S:Nat->Prop}{ρ:Name->Option Nat}{κ:Name->Nat}
theorem OK.know {σ:FSt} (F:OK C σ a w S ρ κ) {t:Nat}{x:AV} (H:RV S w ρ κ σ.h x (a.tmps.getD t undef)):OK C ⟨upd σ.s (some t) x,σ.h⟩ a w S ρ κ:=by
 refine{F with slots:=λu=>?_};simp only[upd];by_cases G:u=t
 .subst G;simp only[Bt];exact H
 .simp only[G,Bg];exact F.slots u
theorem OK.expose {σ:FSt} (M:OK C σ a w S ρ κ) {n:Name}{k:Nat}{rows:List (List AV)}{z:Bool} (Y:σ.h n=some (.arr k rows z)) (I:∀r,r∈rows->nV r=true) {v:Value} (hv:RV S w ρ κ σ.h (.loc n 0 rows.length) v) :
  RC (λb=>ρ n=some b) w (.sl k rows) v:=by
 have hl:=iE hv k rows z Y;obtain⟨_,u,cap,rfl,h1,h2,h3,_⟩:=hl;obtain⟨O,G⟩:=M.hok.blk n _ Y;rcases G with⟨hn,rfl⟩|⟨x,cs,T,fr,U,g2,g3,_,_,g5,g6,V⟩
 .refine .sl k [] u cap 0 0 (λ_=>undef) (by simp) (by simp) (by simp) (by simp) (by simp) ⟨by omega,h2⟩
 .refine .sl k rows u cap x 0 (λi=>cs.getD i undef) (λL=>?_) (λi j hi H=>?_) (λi j hi H=>(V i j hi H).1) (λi j hi H=>?_) O ⟨by omega,h2⟩
  .obtain⟨y,Z,F⟩:=h3 (BZ.2 L);rw[U] at Z;obtain rfl:=Av Z;exact⟨by rw[F];simp,U⟩
  .have J:i*k+j<cs.size:=by
    have:i*k+k<=rows.length*k:=by rw[←Ck];exact BA k hi
    omega
   simp[World.cell?,g2,J]
  .refine((V i j hi H).2).flat ?_
   have hm:rows.getD i []∈rows:=by
    rw[Bc,Bf hi];exact Am _
   exact fJ (I _ hm)
theorem OK.hide {σ:St} (u:OK C σ.f a w S ρ κ) {n:Name}{k:Nat}{rows:List (List AV)} (H:σ.f.h n=some (.arr k rows false)) (I:∀r,r∈rows->nV r=true) {v:Value} (Y:RV S w ρ κ σ.f.h (.loc n 0 rows.length) v) :
  OK (C.anew w S (iK n σ).f.h ρ) (iK n σ).f a w S ρ κ∧Hid (C.anew w S (iK n σ).f.h ρ) (λb=>ρ n=some b) (.sl k rows) v∧Later C (C.anew w S (iK n σ).f.h ρ):=by
 have L:OK C (iK n σ).f a w S ρ κ:=by rw[zK];exact u.kill n
 refine⟨L.anew,⟨u.expose H I Y,λb h=>u.hok.lt (n:=n) (by rw[H];rfl) h,λb h=>⟨λJ=>?_,λU=>?_⟩⟩,L.later⟩
 .obtain⟨_,⟨V,_⟩|⟨x,cs,T,fr,M,Z,g3,O,_⟩⟩:=u.hok.blk n _ H
  .rw[V] at h;cases h
  .rw[M] at h;obtain rfl:=Av h;exact O rfl J
 .obtain⟨m,F,h2⟩:=U
  have G:m≠n:=by
   rintro rfl;rw[zK] at F;simp[qJ] at F
  have J:(σ.f.h m).isSome:=by
   rw[zK] at F;simp only[qJ,G,Bg] at F;cases hx:σ.f.h m with
   |none=>rw[hx] at F;simp at F
   |some b=>rfl
  exact G (u.hok.inj m n b J (by rw[H];rfl) h2 h)
theorem Hid.later {C':Ctx}{D:Nat->Prop}{x:AV}{v:Value} (hh:Hid C D x v) {σ:FSt} (u:OK C σ a w S ρ κ) (G:C'.w0=w) (O:∀b,C'.S0 b->S b) (h2:∀b,C'.Mut b->∃n,(σ.h n).isSome∧ρ n=some b):Hid C' D x v:=by
 obtain⟨Y,J,L,M⟩:=hh.same u;refine⟨by rw[G];exact hh.now u,λb F=>by rw[G];exact J b F,λb F=>⟨λV=>L b F (O b V),λU=>?_⟩⟩;obtain⟨n,H,I⟩:=h2 b U;exact M b F n H I
variable {nt:Nat}{dr:Nat->Array Oper->Option (List Nat)}{Q:Exit->Act->World->Prop}
theorem dP.le {τ:St} (h:dP C (fun σ=>LeL σ τ) a w):∃S ρ κ,OK C τ.f a w S ρ κ:=by
 obtain⟨σ,S,ρ,κ,u,h2⟩:=h;exact⟨S,ρ,κ,h2.le u⟩
theorem dP.no (h:dP C (λ_=>False) a w):False:=by
 obtain⟨_,_,_,_,h,_⟩:=h;exact h
theorem At.step {x y:aF}{σ:St} (τ:St) (F:lL P dr) (H:OK C σ.f a w S ρ κ) (G:C.nt=nt) (J:wpc P C dr x (fun σ'=>LeL σ' τ) (λ_ _=>False) σ)
  (h:∀(a:Act) (w:World) (S:Nat->Prop) (ρ:Name->Option Nat) (κ:Name->Nat),OK C τ.f a w S ρ κ->At P nt dr y Q a w):At P nt dr (.seq x y) Q a w:=
 At.seq (At.fw F H G J (λa w u=>by obtain⟨S,ρ,κ,I⟩:=u.le;exact h a w S ρ κ I) (λi a w u=>u.no.elim) (λa w u=>u.no.elim))
end
section
variable [Envs]
variable {P:Program}{C:Ctx}{a:Act}{w:World}{S:Nat->Prop}{ρ:Name->Option Nat}{κ:Name->Nat}
structure Own (S:Nat->Prop) (w:World) (x:Option Nat) (c:Nat) (k:Nat) (rows:List (List AV)) (v:Value):Prop where
 loc:aAi (λ_=>x) (λ_=>c) (λ_=>some (.arr k rows false)) (.b 0) 0 rows.length v
 blk:wW S w (λ_=>x) (λ_=>c) (λ_=>some (.arr k rows false)) (.b 0) (.arr k rows false)
 fl:∀r,r∈rows->nV r=true
theorem OK.own {σ:FSt} (F:OK C σ a w S ρ κ) {n:Name}{k:Nat}{rows:List (List AV)} (G:σ.h n=some (.arr k rows false)) (u:∀r,r∈rows->nV r=true) {v:Value} (I:RV S w ρ κ σ.h (.loc n 0 rows.length) v) :
  Own S w (ρ n) (κ n) k rows v:=by
 refine⟨λJ L M H=>?_,F.hok.blk n _ G,u⟩;obtain⟨rfl,rfl,rfl⟩:k=J∧rows=L∧false=M:=by simpa using H
 exact iE I k rows false G
theorem Own.mono {S':Nat->Prop}{w':World}{x:Option Nat}{c k:Nat}{rows:List (List AV)}{v:Value} (h:Own S w x c k rows v) (H:∀b,x=some b->¬S' b) (J:∀b,x=some b->w'.heap[b]? = w.heap[b]?):Own S' w' x c k rows v:=by
 refine⟨h.loc,?_,h.fl⟩;obtain⟨I,F⟩:=h.blk;refine⟨I,?_⟩;rcases F with F|⟨y,cs,T,fr,g1,g2,g3,g4,g4',g5,g6,g7⟩
 .exact .inl F
 .have u:x=some y:=g1;refine .inr ⟨y,cs,T,fr,g1,by rw[J y u];exact g2,g3,λ_=>H y u,λh=>(by cases h),g5,g6,λi j hi G=>⟨(g7 i j hi G).1,?_⟩⟩;refine RC.mono (S:=λ_=>False) (w:=w) (λ_ h=>h.elim) (λ_ h=>h.elim) (((g7 i j hi G).2).flat (fJ (h.fl _ ?_)));rw[Bc,Bf hi];exact Am _
structure aCi (S:Nat->Prop) (w:World) (k:Nat) (ls:List (List (List AV))) (ss:List Value) (xs:Nat->Option Nat) (cs:Nat->Nat):Prop where
 len:ls.length=ss.length
 row:∀i,i<ss.length->Own S w (xs i) (cs i) k (ls.getD i []) (ss.getD i undef)
 dif:∀i j b,i<ss.length->j<ss.length->xs i=some b->xs j=some b->i=j
theorem aCi.mono {S':Nat->Prop}{w':World}{k:Nat}{ls:List (List (List AV))}{u:List Value}{xs:Nat->Option Nat}{cs:Nat->Nat} (h:aCi S w k ls u xs cs) (G:∀i b,i<u.length->xs i=some b->¬S' b) (H:∀i b,i<u.length->xs i=some b->w'.heap[b]? = w.heap[b]?):aCi S' w' k ls u xs cs:=
 ⟨h.len,λi hi=>(h.row i hi).mono (λb F=>G i b hi F) (λb F=>H i b hi F),h.dif⟩
theorem aCi.snoc {k:Nat}{ls:List (List (List AV))}{u:List Value}{xs:Nat->Option Nat}{cs:Nat->Nat} (h:aCi S w k ls u xs cs) {x:Option Nat}{c:Nat}{r:List (List AV)}{s:Value} (U:Own S w x c k r s) (M:∀i b,i<u.length->xs i=some b->x≠some b) :
  aCi S w k (ls++[r]) (u++[s]) (λi=>if i=u.length then x else xs i) (λi=>if i=u.length then c else cs i):=by
 refine⟨by simp[h.len],λi hi=>?_,λi j b hi O H h2=>?_⟩
 .rcases Cw i u.length with hlt|hge
  .have L:i≠u.length:=by omega
   have I:(ls++[r]).getD i []=ls.getD i []:=by simp[BB (show i<ls.length by rw[h.len];exact hlt)]
   have J:(u++[s]).getD i undef=u.getD i undef:=by simp[BB hlt]
   simp only[L,Bg];rw[I,J];exact h.row i hlt
  .have F:i=u.length:=by simp at hi;omega
   subst F;have I:(ls++[r]).getD u.length []=r:=by simp[←h.len]
   have J:(u++[s]).getD u.length undef=s:=by simp
   simp only[Bt];rw[I,J];exact U
 .simp only[AC,A9] at hi O;by_cases F:i=u.length<;>by_cases G:j=u.length
  .omega
  .simp only[F,G,Bt,Bg] at H h2;exact(M j b (by omega) h2 H).elim
  .simp only[F,G,Bt,Bg] at H h2;exact(M i b (by omega) H h2).elim
  .simp only[F,G,Bg] at H h2;exact h.dif i j b (by omega) (by omega) H h2
theorem OK.bury {σ:St} (F:OK C σ.f a w S ρ κ) {n:Name}{k:Nat}{rows:List (List AV)} (H:aB σ.h n=some (.arr k rows false)) (J:∀r,r∈rows->nV r=true) {t:Nat} (ht:look σ.s t=.agg [.loc n 0 rows.length])
  {D:Nat->Prop}{xs:List AV}{G:List Value} (hh:Hid C D (.tup xs) (.tuple G.toArray)) :
  ∃s C',Later C C'∧OK C' (⟨(t,.agg [.v s])::(iK n σ).s,(iK n σ).h⟩:St).f a w S ρ κ∧Hid C' (λb=>D b∨ρ n=some b) (.tup (xs++[.sl k rows])) (.tuple (G++[s]).toArray)∧(∃b n c,s=.slice b n c)∧C'.w0=w∧C'.S0=S∧Own S w (ρ n) (κ n) k rows s:=by
 have hs:=F.slots t;rw[show σ.f.s t=_ from ht] at hs;obtain⟨vs,hv,hc,Z⟩:=qN hs;have O:RV S w ρ κ σ.f.h (.loc n 0 rows.length) (vs.getD 0 undef):=Z 0 (by simp);obtain⟨h1,h2,h3⟩:=F.hide H J O
 have hx:RV S w ρ κ (iK n σ).f.h (.agg [.v (vs.getD 0 undef)]) (a.tmps.getD t undef):=by
  rw[hv];refine .agg _ _ hc λj Y=>?_;obtain rfl:j=0:=by simpa using Y
  exact .clo (.v _)
 refine⟨vs.getD 0 undef,_,h3,h1.know hx,?_⟩
 have u:=hh.later F (C':=C.anew w S (iK n σ).f.h ρ) rfl (λ_ h=>h) (λb hm=>by
   obtain⟨m,I,q2⟩:=hm;refine⟨m,?_,q2⟩;rw[zK] at I;simp only[qJ] at I;split at I
   . cases I
   . cases hx:σ.f.h m with
     |none=>rw[hx] at I;cases I
     |some b=>rfl)
 have ha:∀{S':Nat->Prop}{w':World} (v:Value),RC S' w' (.sl k rows) v->∃b n c,v=.slice b n c:=λv h=>by
  cases h with
  |sl=>exact⟨_,_,_,rfl⟩
 refine⟨⟨?_,λb H=>H.elim (u.lt b) (h2.lt b),λb H=>H.elim (u.no b) (h2.no b)⟩,ha _ h2.rd,rfl,rfl,F.own H J O⟩;have g2:=h2.rd;have g1:=u.rd;generalize(C.anew w S (iK n σ).f.h ρ).w0=W at g1 g2⊢;cases g1 with
 | tup _ _ hl Z =>
  have M:xs.length=G.length:=by simpa using hl
  refine .tup _ _ (by simp[M]) λj Y=>?_;rcases Cw j xs.length with h|h
  .have U:(xs++[AV.sl k rows]).getD j .junk=xs.getD j .junk:=by simp[BB h]
   have V:(G++[vs.getD 0 undef]).toArray.getD j undef=G.toArray.getD j undef:=by simp[BB (show j<G.length by omega)]
   rw[U,V];exact(Z j h).mono (λ_ h=>.inl h) λ_ _=>rfl
  .have L:j=xs.length:=by simp at Y;omega
   have U:(xs++[AV.sl k rows]).getD j .junk=.sl k rows:=by simp[L]
   have V:(G++[vs.getD 0 undef]).toArray.getD j undef=vs.getD 0 undef:=by simp[L,M]
   rw[U,V];exact g2.mono (λ_ h=>.inr h) λ_ _=>rfl
end
section
variable [Envs]
variable {P:Program}{C:Ctx}{a:Act}{w:World}{S:Nat->Prop}{ρ:Name->Option Nat}{κ:Name->Nat}
theorem OK.hid {σ:FSt} (J:OK C σ a w S ρ κ) {D:Nat->Prop} (H:∀b,D b->b<w.heap.size) (h2:∀b,D b->¬S b) (I:∀b,D b->∀n,(σ.h n).isSome->ρ n≠some b):Hid (C.anew w S σ.h ρ) D (.v undef) undef:=
 ⟨.v _,H,λb u=>⟨h2 b u,λ⟨n,F,G⟩=>I b u n F G⟩⟩
theorem aCi.write {w':World}{k:Nat}{ls:List (List (List AV))}{F:List Value}{xs:Nat->Option Nat}{cs:Nat->Nat} (h:aCi S w k ls F xs cs) {i:Nat} (hi:i<F.length) {r:List (List AV)} (J:Own S w' (xs i) (cs i) k r (F.getD i undef))
  (L:∀j b,j<F.length->xs j=some b->xs i≠some b->w'.heap[b]? = w.heap[b]?) (I:∀j b,j<F.length->xs j=some b->¬S b):aCi S w' k (ls.set i r) F xs cs:=by
 refine⟨by simp[h.len],λj G=>?_,h.dif⟩;by_cases u:j=i
 .subst u;have e:(ls.set j r).getD j []=r:=by simp[show j<ls.length by rw[h.len];exact G]
  rw[e];exact J
 .have e:(ls.set i r).getD j []=ls.getD j []:=by
   simp only[Bc];rw[List.getElem?_set_ne (DL u)]
  rw[e];exact(h.row j G).mono (λb H=>I j b G H) λb H=>L j b G H λM=>u (h.dif j i b G hi H M)
theorem Own.no {x:Option Nat}{c k:Nat}{rows:List (List AV)}{v:Value} (h:Own S w x c k rows v) {b:Nat} (u:x=some b):¬S b:=by
 obtain⟨_,⟨g,_⟩|⟨y,cs,T,fr,H,J,L,I,_⟩⟩:=h.blk
 .have G:x=none:=g;rw[G] at u;cases u
 .have F:x=some y:=H;rw[F] at u;obtain rfl:=Av u;exact I rfl
theorem Fn.has {f:FuncId}{hin:List Blk}{args:List AV}{r:AV}{hout:List (Option Blk)} (h:Fn P f hin args r hout):wP P f:=h.1
end
end Go.Vs
