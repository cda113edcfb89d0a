/- A region whose order is open: every order gives what the text's order gives. -/
import Derived.Test.YtklmdppgonhflaaGreatDoorVsN
set_option linter.all false
set_option maxHeartbeats 8000000
namespace Go.Vs
section
variable [Envs]
variable {P:Program}{C:Ctx}{a:Act}{w:World}{S:Nat->Prop}{ρ:Name->Option Nat}{κ:Name->Nat}
def vc (P:Program) (K:St->Prop):List aM->St->Prop
 | [],σ=>K σ
 | o::r,σ=>match o.guard with
  |none=>bP P o.dst σ (vc P K r) o.op
  | some (g,want)=>match look σ.s g with
   |.v (.bool b)=>BrW b want (bP P o.dst σ (vc P K r) o.op) (vc P K r ⟨put o.dst (.v (.tuple #[])) σ.s,σ.h⟩)
   |.v (.tuple _)=>vc P K r ⟨put o.dst (.v (.tuple #[])) σ.s,σ.h⟩
   |_=>False
def aM.bare (o:aM):aM:={o with op:=o.op.bare}
def nZ (P:Program) (nt:Nat) (ops:Array Oper) (o:Oper):Option aM:=
 match comp P o.op with
 |none=>none
 | some op=>if o.dst.all (λd=>decide (d<nt)) then
   match o.guard with
   |none=>some ⟨o.dst,op,none⟩
   | some (j,want)=>match(ops[j]?).bind (·.dst) with
    |some t=>some ⟨o.dst,op,some (t,want)⟩
    |none=>none
  else none
theorem iQ {nt:Nat}{ops:Array Oper}{o:Oper}{ao:aM} (h:nZ P nt ops o=some ao.bare):comp P o.op=some ao.op.bare∧o.dst=ao.dst∧(∀d,o.dst=some d->d<nt)∧
  ((o.guard=none∧ao.guard=none)∨∃j F t,o.guard=some (j,F)∧ao.guard=some (t,F)∧(ops[j]?).bind (·.dst)=some t):=by
 grind [nZ,aM.bare]
theorem zW {σ:St}{ops:Array Oper}{o:Oper}{j t:Nat}{F b:Bool} (G:OK C σ.f a w S ρ κ) (J:o.guard=some (j,F)) (O:(ops[j]?).bind (·.dst)=some t) (M:look σ.s t=.v (.bool b)) :
  Region.wanted o (yielded ops a.tmps)=(b==F):=by
 have H:=G.slots t;simp only[St.f] at H;rw[M] at H;have I:=dD H
 have:a.tmps[t]? = some (.bool b):=by
  cases hx:a.tmps[t]? with
  | none =>
   grind [undef]
  | some u =>
   have:a.tmps.getD t undef=u:=by simp[hx]
   rw[this] at I;rw[I]
 simp[Region.wanted,J,yielded,O,this]
theorem zV {σ:St}{ops:Array Oper}{o:Oper}{j t:Nat}{F:Bool}{cs:Array Value} (G:OK C σ.f a w S ρ κ) (I:o.guard=some (j,F)) (M:(ops[j]?).bind (·.dst)=some t) (J:look σ.s t=.v (.tuple cs)) :
  Region.wanted o (yielded ops a.tmps)=false:=by
 have H:=G.slots t;simp only[St.f] at H;rw[J] at H;have O:=dD H;cases hx:a.tmps[t]? with
 |none=>simp[Region.wanted,I,yielded,M,hx]
 | some u =>
  have:a.tmps.getD t undef=u:=by simp[hx]
  all_goals grind [Region.wanted,yielded]
theorem aEq {ops:Array Oper}{Q:Exit->Act->World->Prop}{K:St->Prop} (hQ:∀a w,dV C K a w->Q .normal a w):∀(aops:List aM) (k:Nat),(∀j ao,aops[j]? = some ao->∃o,ops[k+j]? = some o∧nZ P C.nt ops o=some ao.bare)->
  ∀(σ:St) (a:Act) (w:World) (S:Nat->Prop) (ρ:Name->Option Nat) (κ:Name->Nat),vc P K aops σ->OK C σ.f a w S ρ κ->wpOps P ops Q (List.range' k aops.length) a w
 | [],k,_,σ,a,w,S,ρ,κ,hv,hok=>hQ a w ⟨σ,S,ρ,κ,hv,hok⟩
 | ao::r,k,hs,σ,a,w,S,ρ,κ,hv,hok=>by
  obtain⟨o,ho,hc⟩:=hs 0 ao (by simp);simp only[Cu] at ho;obtain⟨h1,h2,M,h4⟩:=iQ hc;rw[Ac,List.range'_succ,wpOps_cons]
  have Y:=aEq hQ r (k+1) (λj J hj=>by
    obtain⟨o',H,I⟩:=hs (j+1) J (by simpa using hj);exact⟨o',by rw[show k+1+j=k+(j+1) by omega];exact H,I⟩)
  have go:bP P ao.dst σ (vc P K r) ao.op->o.wp P a w (wpOps P ops Q (List.range' (k+1) r.length)) Q:=λU =>
   Oper.wp_mono (λa' w' ⟨σ',S',ρ',κ',hK,hok'⟩=>Y σ' a' w' S' ρ' κ' hK hok') (wZ (P:=P) h1 hok M (by rw[h2];exact U))
  unfold wpOp;rw[ho];simp only[vc] at hv;rcases h4 with⟨H,I⟩|⟨j,F,t,H,I,Z⟩
  .grind [Region.wanted]
  .rw[I] at hv;simp only at hv;split at hv
   .rename_i b O;have V:=zW hok H Z O;simp only[V];by_cases G:b=F
    .simp only[G,beq_self_eq_true,Bj];exact .inl (go ((l8.1 hv).1 G))
    .have:(b==F)=false:=by simpa using G
     simp only[this,AO,Bc];have hn:b = !F:=by cases b<;>cases F<;>simp_all
     refine Y _ _ _ S ρ κ ((l8.1 hv).2 hn) ?_;have:=hok.put (x:=.v undef) (v:=undef) (.clo (.v _)) M
     all_goals grind [St.f,lI,undef]
   .rename_i cs O;have V:=zV hok H Z O;simp only[V,AO,Bc];refine Y _ _ _ S ρ κ hv ?_;have:=hok.put (x:=.v undef) (v:=undef) (.clo (.v _)) M
    all_goals grind [St.f,lI,undef]
   .exact hv.elim
/-! ## code -/
inductive kW where
 |ret
 |exit (i:Nat)
inductive aD where
 |skip
 |region (ops:List aM) (out:List Nat) (fl:List Nat)
 |seq (x y:aD)
 |cond (c:Operand) (x y:aD)
 |block (id:Nat) (c:aD)
 |loop (c:aD)
 |exit (id:Nat)
 |ret
 |closing (t:Nat) (c:aD)
 |naming (t:Nat) (c:aD)
def xS (s:List (Nat×AV)):List Nat->List (Nat×AV)
 | []=>[]
 |t::r=>(t,look s t)::xS s r
theorem aBR (s:List (Nat×AV)):∀(l:List Nat) (t:Nat),look (xS s l) t=look s t∨look (xS s l) t=.junk
 | [],t=>.inr rfl
 | i::r,t=>by
  simp only[xS,look];split
  .subst_vars;exact .inl rfl
  .exact aBR s r t
theorem OK.less {σ σ':FSt} (F:OK C σ a w S ρ κ) (Y:∀t,σ'.s t=σ.s t∨σ'.s t=.junk) (hh:∀n b,σ'.h n=some b->σ.h n=some b):OK C σ' a w S ρ κ:=by
 have J:∀m,gW ρ ρ κ κ σ.h σ'.h m:=λm b H=>⟨rfl,rfl,b,hh m b H,b.same_refl⟩
 have G:∀m,(σ'.h m).isSome->(σ.h m).isSome:=by
  intro m V;obtain⟨b,H⟩:=AA.1 V;simp[hh m b H]
 refine⟨F.nt,F.defers,λt=>?_,⟨λm b H=>?_,λm M y I h2 O U=>F.hok.inj m M y (G m I) (G M h2) O U,F.hok.dom,F.hok.env⟩,F.size,F.old,λm y I h2=>F.mine m y (G m I) h2,F.S0,F.Snew,F.out,λj b H=>F.keep j b (hh _ _ H)⟩
 .rcases Y t with e|e
  .rw[e];exact(F.slots t).mono (λ_ h=>h) (λ_ _=>rfl) λm _=>J m
  .rw[e];exact .junk _
 .exact(F.hok.blk m b (hh m b H)).mono (λ_ h=>h) (λ_ _ h=>h) (λ_ _=>rfl) (λ_ _=>rfl) rfl rfl λm _=>J m
def aCC (P:Program) (nt:Nat) (ops:Array Oper):List Oper->Option (List aM)
 | []=>some []
 | o::r=>match nZ P nt ops o,aCC P nt ops r with
  |some x,some l=>some (x::l)
  |_,_=>none
def bN (P:Program) (nt:Nat) (drawn:Nat->Array Oper->Option (List Nat)):Code->Option aD
 |.skip=>some .skip
 | .region _ ops draw=>match(if draw then drawn nt ops else some []) with
  |some fl=>(aCC P nt ops ops.toList).map λl=>.region l [] fl
  |none=>none
 | .seq x y=>match bN P nt drawn x,bN P nt drawn y with
  |some x,some y=>some (.seq x y)
  |_,_=>none
 | .cond c x y=>match bN P nt drawn x,bN P nt drawn y with
  |some x,some y=>some (.cond c x y)
  |_,_=>none
 |.block id x=>(bN P nt drawn x).map (.block id)
 |.loop x=>(bN P nt drawn x).map .loop
 |.exit id=>some (.exit id)
 |.ret=>some .ret
 |_=>none
def aD.bare:aD->aD
 |.region ops _ fl=>.region (ops.map aM.bare) [] fl
 |.seq x y=>.seq x.bare y.bare
 |.cond c x y=>.cond c x.bare y.bare
 |.block id x=>.block id x.bare
 |.loop x=>.loop x.bare
 |.closing _ x=>x.bare
 |.naming _ x=>x.bare
 |c=>c
theorem nX {nt:Nat}{ops:Array Oper}:∀{l:List Oper}{r:List aM},aCC P nt ops l=some (r.map aM.bare)->l.length=r.length∧∀(j:Nat) (ao:aM),r[j]? = some ao->∃o,l[j]? = some o∧nZ P nt ops o=some ao.bare
 | [],r,h=>by
  simp only[aCC,Ab] at h;have:r=[]:=by simpa using h.symm
  subst this;simp
 | o::l,r,h=>by
  simp only[aCC] at h;split at h
  .rename_i x I H h2;cases r with
   |nil=>simp at h
   | cons ao r =>
    simp only[Bt,Ab,List.cons.injEq] at h;obtain⟨rfl,rfl⟩:=h;obtain⟨F,G⟩:=nX h2
    all_goals grind
  .cases h
def aBX (fl:List Nat) (ops:List aM) (σ:St):Bool:=
 !fl.contains 3000000&&((fl.all λd=>σ.s.all λp=>!(p.1==d))&&ops.all λo=>match o.op,o.dst with
   |.call _ _ bor,some d=>bor.isEmpty||!fl.contains d||fl.contains (d+2000000)
   |.bsliceC ..,some d=>!fl.contains d
   |.load ..,some d=>!fl.contains (d+1000000)
   |.fieldAddr ..,some d=>!fl.contains (d+1000000)
   |_,_=>true)
def lX (P:Program) (drawn:Nat->Array Oper->Option (List Nat)):Prop:=
 ∀ (C:Ctx) (id:Nat) (ops:Array Oper) (aops:List aM) (fl:List Nat) (K:St->Prop) (Q:Exit->Act->World->Prop) (σ:St) (a:Act) (w:World) (S:Nat->Prop) (ρ:Name->Option Nat) (κ:Name->Nat),
  drawn C.nt ops=some fl->aCC P C.nt ops ops.toList=some (aops.map aM.bare)->aBX fl aops σ=true->(∀a w,dV C K a w->Q .normal a w)->vc P K aops σ->OK C σ.f a w S ρ κ->(Code.region id ops true).wp P Q a w
def aD5 (P:Program) (C:Ctx) (drawn:Nat->Array Oper->Option (List Nat)) (ac:aD) (N:St->Prop) (E:kW->St->Prop) (σ:St):Prop:=
 ∀ (c:Code) (Q:Exit->Act->World->Prop) (a:Act) (w:World) (S:Nat->Prop) (ρ:Name->Option Nat) (κ:Name->Nat),bN P C.nt drawn c=some ac.bare->
  (∀a w,dV C N a w->Q .normal a w)->(∀i a w,dV C (E (.exit i)) a w->Q (.exit i) a w)->(∀a w,dV C (E .ret) a w->Q .ret a w)->OK C σ.f a w S ρ κ->c.wp P Q a w
def RgK (b:Bool) (A X:Prop) (_:Tag (b,A,X)):Prop:=(b=true∧A)∨X
theorem RgK.mk {b:Bool}{A X:Prop}{t:Tag (b,A,X)} (F:b=true) (h2:A):RgK b A X t:=.inl ⟨F,h2⟩
def aP (P:Program) (C:Ctx) (drawn:Nat->Array Oper->Option (List Nat)) (c:aD) (N:St->Prop) (E:kW->St->Prop) (σ:St) (_:Tag (N,E)):Prop:=aD5 P C drawn (.loop c) N E σ
def wpc (P:Program) (C:Ctx) (drawn:Nat->Array Oper->Option (List Nat)):aD->(St->Prop)->(kW->St->Prop)->St->Prop
 |.skip,N,_,σ=>N σ
 | .region ops out fl,N,E,σ=>match fl with
  | []=>vc P (fun σ'=>N ⟨xS σ'.s out,σ'.h⟩) ops σ
  |d::r=>RgK (aBX (d::r) ops σ) (vc P (fun σ'=>N ⟨xS σ'.s out,σ'.h⟩) ops σ) (aD5 P C drawn (.region ops out (d::r)) N E σ) .x
 |.seq x y,N,E,σ=>wpc P C drawn x (wpc P C drawn y N E) E σ
 | .cond c x y,N,E,σ=>match evO (look σ.s) c with
  |.v (.bool b)=>Br b (wpc P C drawn x N E σ) (wpc P C drawn y N E σ) .x
  |_=>False
 | .block id x,N,E,σ=>wpc P C drawn x N (λe σ'=>match e with
   |.exit i=>(i=id->N σ')∧(i≠id->E (.exit i) σ')
   |.ret=>E .ret σ') σ
 |.loop x,N,E,σ=>aP P C drawn x N E σ .x
 |.exit id,_,E,σ=>E (.exit id) σ
 |.ret,_,E,σ=>E .ret σ
 |.closing t x,N,E,σ=>wpc P C drawn x (fun σ'=>aFD t σ' N) E σ
 |.naming t x,N,E,σ=>wpc P C drawn x (fun σ'=>aIu t σ' N) E σ
theorem zU {J:Nat->Array Oper->Option (List Nat)} (hl:lX P J):∀(ac:aD) (N:St->Prop) (E:kW->St->Prop) (σ:St),wpc P C J ac N E σ->aD5 P C J ac N E σ:=by
 intro ac
 induction ac with
 | skip =>
  intro N E σ I c Q a w S ρ κ F M O U G;cases c<;>simp[bN,aD.bare] at F
  case skip=>exact wp_skip (M a w ⟨σ,S,ρ,κ,I,G⟩)
  all_goals(first|(split at F<;>simp at F)|skip)
 | region ops out fl =>
  intro N E σ I c Q a w S ρ κ F M O U G
  have I:(aBX fl ops σ=true∧vc P (fun σ'=>N ⟨xS σ'.s out,σ'.h⟩) ops σ)∨aD5 P C J (.region ops out fl) N E σ:=by
   cases fl with
   | nil =>
    refine .inl ⟨?_,I⟩;simp only[aBX,DL,List.contains_nil,Cs,CW,Az];intro o _;split<;>simp
   |cons d r=>exact I
  rcases I with I|I
  rotate_left
  .exact I c Q a w S ρ κ F M O U G
  have he:∀a w,dV C (fun σ'=>N ⟨xS σ'.s out,σ'.h⟩) a w->Q .normal a w:=by
   rintro a w ⟨σ',S',ρ',κ',hK,H⟩;exact M a w ⟨_,S',ρ',κ',hK,H.less (aBR _ _) (λ_ _ h=>h)⟩
  cases c
  case region id cops draw =>
   simp only[bN,aD.bare] at F;split at F
   .rename_i hk hf;cases ho:aCC P C.nt cops cops.toList with
    |none=>rw[ho] at F;cases F
    | some l =>
     rw[ho] at F;simp only[AU,Ab,aD.region.injEq,Ck] at F;obtain⟨F,rfl⟩:=F;subst F;cases draw with
     | false =>
      obtain⟨g1,g2⟩:=nX ho;refine wp_region ?_
      have:=aEq (P:=P) he ops 0 (λj ao hj=>by
        obtain⟨o,q1,q2⟩:=g2 j ao hj;exact⟨o,by simpa using q1,q2⟩) σ a w S ρ κ I.2 G
      all_goals grind [List.range_eq_range']
     | true =>
      grind [lX]
   .cases F
  all_goals(simp only[bN,aD.bare] at F;first|(cases F;done)|(split at F<;>simp at F)|(simp at F))
 | seq x y ihx ihy =>
  intro N E σ I c Q a w S ρ κ F M O U G;cases c
  case seq cx cy =>
   simp only[bN,aD.bare] at F;split at F
   .rename_i x' y' Y h2;simp only[Ab,aD.seq.injEq] at F;obtain⟨rfl,rfl⟩:=F;refine wp_seq (ihx _ _ _ I cx _ a w S ρ κ Y (λa w V=>?_) O U G);obtain⟨σ',S',ρ',κ',hK,H⟩:=V;exact ihy _ _ _ hK cy Q a w S' ρ' κ' h2 M O U H
   .cases F
  all_goals(simp only[bN,aD.bare] at F;first|(cases F;done)|(split at F<;>simp at F)|(simp at F))
 | cond cc x y ihx ihy =>
  intro N E σ I c Q a w S ρ κ F M O U G;cases c
  case cond co cx cy =>
   simp only[bN,aD.bare] at F;split at F
   .rename_i x' y' Y h2;simp only[Ab,aD.cond.injEq] at F;obtain⟨rfl,rfl,rfl⟩:=F;simp only[wpc] at I;split at I
    .rename_i b hb;have hd:=G.ev co;rw[show evO σ.f.s co=_ from hb] at hd;have ha:=dD hd;cases b
     .exact wp_cond_false ha (ihy _ _ _ (I.get.2 rfl) cy Q a w S ρ κ h2 M O U G)
     .exact wp_cond_true ha (ihx _ _ _ (I.get.1 rfl) cx Q a w S ρ κ Y M O U G)
    .exact I.elim
   .cases F
  all_goals(simp only[bN,aD.bare] at F;first|(cases F;done)|(split at F<;>simp at F)|(simp at F))
 | block id x ih =>
  intro N E σ I c Q a w S ρ κ F M O U G;cases c
  case block cid cx =>
   simp only[bN,aD.bare] at F;cases Y:bN P C.nt J cx with
   |none=>rw[Y] at F;cases F
   | some x' =>
    rw[Y] at F;simp only[AU,Ab,aD.block.injEq] at F;obtain⟨rfl,rfl⟩:=F;refine wp_block (ih _ _ _ I cx _ a w S ρ κ Y (λa w V=>M a w V) (λi a w V=>?_) (λa w V=>U a w V) G);obtain⟨σ',S',ρ',κ',hK,H⟩:=V;simp only[Exit.inBlock];by_cases hi:i=cid
    .rw[AP hi];exact M a w ⟨σ',S',ρ',κ',hK.1 hi,H⟩
    .rw[AC hi];exact O i a w ⟨σ',S',ρ',κ',hK.2 hi,H⟩
  all_goals(simp only[bN,aD.bare] at F;first|(cases F;done)|(split at F<;>simp at F)|(simp at F))
 |loop x ih=>intro N E σ I;exact I
 | exit id =>
  intro N E σ I c Q a w S ρ κ F M O U G;cases c
  case exit cid =>
   simp only[bN,aD.bare,Ab,aD.exit.injEq] at F;subst F;exact wp_exit (O _ a w ⟨σ,S,ρ,κ,I,G⟩)
  all_goals(simp only[bN,aD.bare] at F;first|(cases F;done)|(split at F<;>simp at F)|(simp at F))
 | ret =>
  intro N E σ I c Q a w S ρ κ F M O U G;cases c
  case ret=>exact wp_ret (U a w ⟨σ,S,ρ,κ,I,G⟩)
  all_goals(simp only[bN,aD.bare] at F;first|(cases F;done)|(split at F<;>simp at F)|(simp at F))
 | closing t x ih =>
  intro N E σ I c Q a w S ρ κ F M O U G;refine ih _ _ _ I c Q a w S ρ κ F (λa' w' V=>?_) O U G;obtain⟨σ',S',ρ',κ',Z,H⟩:=V;exact M a' w' (aGR Z H)
 | naming t x ih =>
  intro N E σ I c Q a w S ρ κ F M O U G;refine ih _ _ _ I c Q a w S ρ κ F (λa' w' V=>?_) O U G;obtain⟨σ',S',ρ',κ',Z,H⟩:=V;exact M a' w' (aHp Z H)
def LeL (σ σ':St):Prop:=(∀p,p∈σ'.s->look σ.s p.1=p.2∨p.2=.junk)∧∀p,p∈σ'.h->aB σ.h p.1=some p.2
theorem OK.le {σ σ':St} (F:OK C σ.f a w S ρ κ) (h:LeL σ σ'):OK C σ'.f a w S ρ κ:=by
 refine F.less (λt=>?_) (λn b H=>h.2 _ (wH _ _ _ H))
 have G:∀(l:List (Nat×AV)),(∀p,p∈l->look σ.s p.1=p.2∨p.2=.junk)->look l t=look σ.s t∨look l t=.junk:=by
  intro l
  induction l with
  |nil=>intro _;exact .inr rfl
  | cons p r ih =>
   grind [look]
 exact G σ'.s h.1
theorem least (p:Nat->Prop) (h:∃n,p n):∃n,p n∧∀m,p m->n<=m:=by
 classical
 obtain⟨n,F⟩:=h
 induction n using Nat.strongRecOn with
 | ind n ih =>
  grind
theorem aP.intro {F:Nat->Array Oper->Option (List Nat)} (ha:lX P F) {X:Type} (H:X->St) (μ:X->Nat) (x0:X) {c:aD}{N:St->Prop}{E:kW->St->Prop}{σ:St}{tg:Tag (N,E)} (h0:LeL σ (H x0))
  (hr:∀x,wpc P C F c (fun σ'=>∃M,LeL σ' (H M)∧μ M<μ x) E (H x)):aP P C F c N E σ tg:=by
 show aD5 P C F (.loop c) N E σ
 intro U Q a w S ρ κ I hN hE hR hd;cases U
 case loop cx =>
  simp only[bN,aD.bare] at I;cases h1:bN P C.nt F cx with
  |none=>rw[h1] at I;cases I
  | some M =>
   rw[h1] at I;simp only[AU,Ab,aD.loop.injEq] at I;subst I
   classical
   let G:Act->World->Prop:=λa w=>∃x S ρ κ,OK C (H x).f a w S ρ κ
   let m:Act->World->Nat:=λa w=>if h:∃n x,μ x=n∧∃S ρ κ,OK C (H x).f a w S ρ κ then(least _ h).choose else 0
   refine wp_loop G m ⟨x0,S,ρ,κ,hd.le h0⟩ ?_;rintro a w hG
   have V:∃n x,μ x=n∧∃S ρ κ,OK C (H x).f a w S ρ κ:=by
    grind
   obtain⟨x,hx,S,ρ,κ,Z⟩:=(least _ V).choose_spec.1;have hm:m a w=μ x:=by simp only[m,dif_pos V];exact hx.symm
   refine zU ha c _ _ _ (hr x) cx _ a w S ρ κ h1 (λa' w' hg=>?_) hE hR Z;obtain⟨σ',S',ρ',κ',⟨M,hb,he⟩,Y⟩:=hg;have J:=Y.le hb;refine⟨⟨M,S',ρ',κ',J⟩,?_⟩;have O:∃n x,μ x=n∧∃S ρ κ,OK C (H x).f a' w' S ρ κ:=⟨μ M,M,rfl,S',ρ',κ',J⟩
   have:m a' w'<=μ M:=by
    simp only[m,dif_pos O];exact(least _ O).choose_spec.2 _ ⟨M,rfl,S',ρ',κ',J⟩
   omega
 all_goals(simp only[bN,aD.bare] at I;first|(cases I;done)|(split at I<;>simp at I)|(simp at I))
end
section
variable [Envs]
variable {P:Program}{C:Ctx}{a:Act}{w:World}{S:Nat->Prop}{ρ:Name->Option Nat}{κ:Name->Nat}{h:Name->Option Blk}
theorem aJC (I:HOK S w ρ κ h) {S':Nat->Prop} (hS:∀b,S b->S' b) {E:List Name}{ρ':Name->Option Nat}{κ':Name->Nat}{h':Name->Option Blk}
  (Z:∀j n,E[j]? = some n->ρ' (.b j)=ρ n∧κ' (.b j)=κ n∧∀J,h' (.b j)=some J->∃b,h n=some b∧b.same J) {c:Bool}
  {cs H:List AV}{L:List Name}{vs:Array Value} (G:dG (conv h 8 E c) cs=some (H,L)) (hL:∀n,n∈L->∀y,ρ n=some y->S' y) (hr:∀j,j<cs.length->RV S w ρ κ h (cs.getD j .junk) (vs.getD j undef)) :
  ∀n,n∈L->n∉E∧(h n).isSome:=by
 intro n hn;obtain⟨j,O,Lj,M,V⟩:=aBd G n hn;obtain⟨U,F,Y⟩:=(kD G).2 j O;rw[M] at F;simp only[Ab,AL,Ck] at F;subst F;exact(aAr I hS Z 8 c _ _ _ _ M (λm G=>hL m (Y m G)) (hr j O)).2.2 n V
def zQ (h:Name->Option Blk) (E:List Name):List Name->Option (List (Option Blk)×List Name)
 | []=>some ([],[])
 | n::r=>match h n,zQ h E r with
  |none,some (bs,L)=>some (none::bs,L)
  | some b,some (bs,L')=>match jV h E b with
   |some (b',L)=>if b'.fz then none else some (some b'::bs,L++L')
   |none=>none
  |_,none=>none
theorem aAM (h:Name->Option Blk) (E:List Name):∀{B:List Name}{bs:List (Option Blk)}{L:List Name},zQ h E B=some (bs,L)->bs.length=B.length∧
  (∀(j:Nat) (n:Name),B[j]? = some n->(h n=none∧bs[j]? = some none)∨∃b F G,h n=some b∧jV h E b=some (F,G)∧bs[j]? = some (some F)∧F.fz=false∧∀m,m∈G->m∈L)∧
  ∀m,m∈L->∃(n:Name) (b F:Blk) (G:List Name),n∈B∧h n=some b∧jV h E b=some (F,G)∧m∈G
 | [],bs,L,hb=>by
  grind [zQ]
 | n::r,bs,L,hb=>by
  simp only[zQ] at hb;split at hb
  .rename_i H L2 M h2;simp only[Ab,AL] at hb;obtain⟨rfl,rfl⟩:=hb;obtain⟨J,O,U⟩:=aAM h E h2
   all_goals grind
  .rename_i b H L2 M h2;split at hb
   .rename_i F L1 V;split at hb
    .cases hb
    .rename_i Z;simp only[Ab,AL] at hb;obtain⟨rfl,rfl⟩:=hb;obtain⟨J,O,U⟩:=aAM h E h2;refine⟨by simp[J],λj m Y=>?_,λm I=>?_⟩
     .cases j with
      | zero =>
       grind
      | succ j =>
       grind
     .rcases Bg.1 I with I|I
      all_goals grind
   .cases hb
  .cases hb
theorem aI0 (h:Name->Option Blk) (E:List Name):∀{B:List Name}{bs:List Blk}{L:List Name},rP h E B=some (bs,L)->zQ h E B=some (bs.map some,L)
 | [],bs,L,hb=>by
  simp only[rP,Ab,AL] at hb;obtain⟨rfl,rfl⟩:=hb;rfl
 | n::r,bs,L,hb=>by
  simp only[rP] at hb;split at hb
  .rename_i J L1 G L2 F h2;split at hb
   .cases hb
   .rename_i I;simp only[Ab,AL] at hb;obtain⟨rfl,rfl⟩:=hb;have H:=aI0 h E h2;cases hn:h n with
    |none=>rw[hn] at F;cases F
    | some b =>
     rw[hn] at F;simp only[CQ] at F;simp[zQ,hn,H,F,I]
  .cases hb
theorem aFw (I:HOK S w ρ κ h) {B:List Name} (hq:B.Nodup) {x y:AV}{v:Value}{hout:List (Option Blk)}{L1 L2:List Name} (hx:RV S w ρ κ h x v)
  (hc:conv h 8 B false x=some (y,L1)) (h5:zQ h B B=some (hout,L2)) :
  ∃ (S':Nat->Prop) (ρ':Name->Option Nat) (κ':Name->Nat),HOK S' w ρ' κ' (Hn hout)∧RV S' w ρ' κ' (Hn hout) y v∧(∀b,S b->S' b)∧
   (∀b,S' b->S b∨∃n,(h n).isSome∧ρ n=some b)∧(∀j z,((hout.getD j none).isSome)->ρ' (.b j)=some z->∃n,(h n).isSome∧ρ n=some z)∧
   ∀j n,B[j]? = some n->ρ' (.b j)=ρ n∧κ' (.b j)=κ n∧∀H,Hn hout (.b j)=some H->∃b,h n=some b∧b.same H:=by
 obtain⟨h6,he,h0⟩:=aAM _ _ h5
 let L:=L1++L2
 let S1:Nat->Prop:=λy=>S y∨∃n,n∈L∧ρ n=some y
 let ρ0:Name->Option Nat:=λm=>match m with|.b j=>(B[j]?).bind ρ|.t _ _=>none
 let κ0:Name->Nat:=λm=>match m with|.b j=>((B[j]?).map κ).getD 0|.t _ _=>0
 have V:∀y,S y->S1 y:=λy hy=>.inl hy;have hl:∀n,n∈L1->n∈L:=λn U=>Cq _ U;have ho:∀n,n∈L2->n∈L:=λn U=>CX _ U
 have hE:∀j n,B[j]? = some n->ρ0 (.b j)=ρ n∧κ0 (.b j)=κ n∧∀H,Hn hout (.b j)=some H->∃b,h n=some b∧b.same H:=by
  intro j n O;refine⟨by simp[ρ0,O],by simp[κ0,O],λH M=>?_⟩;rcases he j n O with⟨_,g0⟩|⟨b,b2,Lj,J,F,g3,_,_⟩
  .simp[Hn,List.getD,g0] at M
  have:H=b2:=by
   grind [Hn]
  subst this;refine⟨b,J,?_⟩;cases b with
  | var c z =>
   simp only[jV] at F;cases G:dG (conv h 8 B false) c with
   |none=>rw[G] at F;cases F
   | some p =>
    rw[G] at F;simp only[AU,Ab,AL] at F;rw[←F.1];exact((kD G).1).symm
  | arr k l z =>
   grind [jV,Blk.same_refl]
 have hd:∀m,m∈L->∀y,ρ m=some y->S1 y:=λm G y hy=>.inr ⟨m,G,hy⟩;have Z:=aAr I V (κ':=κ0) hE 8
 have hf:∀n,n∈L->n∉B∧(h n).isSome:=by
  intro n U;rcases Bg.1 U with U|U
  .exact(Z false _ _ _ _ hc (λm G=>hd m (hl m G)) hx).2.2 n U
  .obtain⟨n',b,H,Lj,J,F,g3,g4⟩:=h0 n U;cases b with
   | arr k l z =>
    grind [jV]
   | var c z =>
    simp only[jV] at g3;cases G:dG (conv h 8 B false) c with
    |none=>rw[G] at g3;cases g3
    | some p =>
     obtain⟨c',Lp⟩:=p;rw[G] at g3;simp only[AU,Ab,AL] at g3;obtain⟨_,rfl⟩:=g3;obtain⟨x,cs,T,fr,q1,q2,q3,q4,_,q5,q6,q7⟩:=I.blk n' _ F;obtain⟨i,hi⟩:=BH.1 J;rcases he i n' hi with⟨p0,_⟩|⟨b1,b2,Lb,p1,p2,p3,p4,p5⟩
     .rw[F] at p0;cases p0
     rw[F] at p1;obtain rfl:=Ay p1;simp only[jV,G,AU,Ab,AL] at p2;obtain⟨_,rfl⟩:=p2;exact aJC I V (κ':=κ0) hE G (λm G=>hd m (ho m (p5 m G))) (λj O=>(q7 j O).2) n g4
 have hu:∀n b,n∈B->h n=some b->b.fz=false->∀x,ρ n=some x->¬S1 x:=by
  rintro n b U hb Y x hx (hs|⟨m,G,hmx⟩)
  .have:=I.blk n b hb;cases b with
   | var c z =>
    obtain⟨y,_,_,_,J,_,_,F,_⟩:=this;obtain rfl:=Ay (hx.symm.trans J);exact F Y hs
   | arr k l z =>
    obtain⟨_,⟨J,_⟩|⟨y,_,_,_,J,_,_,F,_⟩⟩:=this
    .rw[hx] at J;cases J
    .obtain rfl:=Ay (hx.symm.trans J);exact F Y hs
  all_goals grind [HOK]
 have ha:∀j H,Hn hout (.b j)=some H->∃n b Lj,B[j]? = some n∧h n=some b∧jV h B b=some (H,Lj)∧(∀m,m∈Lj->m∈L2)∧H.fz=false:=by
  intro j H M
  have O:j<B.length:=by
   grind [Hn]
  rcases he j B[j] (by simp[O]) with⟨_,g0⟩|⟨b,b2,Lj,J,F,g3,g4,g5⟩
  .simp[Hn,List.getD,g0] at M
  have:H=b2:=by
   grind [Hn]
  subst this;exact⟨B[j],b,Lj,by simp[O],J,F,g5,g4⟩
 have hr:HOK S1 w ρ0 κ0 (Hn hout):=by
  refine⟨λm H M=>?_,λm m' x h1 h2 h3 h4=>?_,?_,I.env.mono V λ_ _=>rfl⟩
  .cases m with
   |t=>simp[Hn] at M
   | b j =>
    obtain⟨n,b,Lj,g0,J,F,g5,g4⟩:=ha j H M;obtain⟨e1,e2,_⟩:=hE j n g0;have hb:=I.blk n b J;have hp:=hu n b (BS g0) J;cases b with
    | var c z =>
     simp only[jV] at F;cases G:dG (conv h 8 B false) c with
     |none=>rw[G] at F;cases F
     | some p =>
      obtain⟨c',Lp⟩:=p;rw[G] at F;simp only[AU,Ab,AL] at F;obtain⟨rfl,rfl⟩:=F;obtain⟨x,cs,T,fr,q1,q2,q3,q4,hg,q5,q6,q7⟩:=hb;obtain⟨l1,l2⟩:=kD G;refine⟨x,cs,T,fr,by rw[e1];exact q1,q2,q3,λY=>hp Y x q1,λY=>.inl (hg Y),by rw[e2];exact q5,by omega,λi hi=>⟨(q7 i (by omega)).1,?_⟩⟩;obtain⟨Li,l3,l4⟩:=l2 i (by omega);exact(Z false _ _ _ _ l3 (λm G=>hd m (ho m (g5 m (l4 m G)))) (q7 i (by omega)).2).1 rfl
    | arr k l z =>
     simp only[jV,Ab,AL] at F;obtain⟨rfl,rfl⟩:=F;obtain⟨q0,⟨q1,q2⟩|⟨x,cs,T,fr,q1,q2,q3,q4,hg,q5,q6,q7⟩⟩:=hb
     .exact⟨q0,.inl ⟨by rw[e1];exact q1,q2⟩⟩
     .exact⟨q0,.inr ⟨x,cs,T,fr,by rw[e1];exact q1,q2,q3,λY=>hp Y x q1,λY=>.inl (hg Y),by rw[e2];exact q5,q6,λi j hi O=>⟨(q7 i j hi O).1,(q7 i j hi O).2.mono V λ_ _=>rfl⟩⟩⟩
  .cases m with
   |t=>simp[Hn] at h1
   | b j =>
    cases m' with
    |t=>simp[Hn] at h2
    | b j' =>
     obtain⟨b1,hv⟩:=AA.1 h1;obtain⟨b2,hw⟩:=AA.1 h2;obtain⟨n,b,_,g0,J,_⟩:=ha j b1 hv;obtain⟨n',H,_,hk,ht,_⟩:=ha j' b2 hw;rw[(hE j n g0).1] at h3;rw[(hE j' n' hk).1] at h4;obtain rfl:=I.inj n n' x (by simp[J]) (by simp[ht]) h3 h4;congr 1;have e1:=vX hq g0;have e2:=vX hq hk;rw[e1] at e2;exact Ay e2
  .rintro y (hy|⟨n,U,hy⟩)
   .exact I.dom y hy
   .exact I.lt (hf n U).2 hy
 refine⟨S1,ρ0,κ0,hr,(Z false _ _ _ _ hc (λm G=>hd m (hl m G)) hx).1 rfl,V,?_,?_,hE⟩
 .grind
 .intro j z O Y;obtain⟨H,M⟩:=AA.1 O;obtain⟨n,b,_,g0,J,_⟩:=ha j H M
  all_goals grind
def aHh (P:Program) (σ:St) (K:AV->Prop):ResultVar->Prop
 |.tmp t=>K (look σ.s t)
 | .cell A T=>match vQ P T with
  |some (g,k)=>rd (evO (look σ.s)) (aB σ.h) K (.load g k (.tmp A))
  |none=>False
def aAC (P:Program) (σ:St) (K:List AV->Prop):List ResultVar->Prop
 | []=>K []
 |r::rs=>aHh P σ (λx=>aAC P σ (λxs=>K (x::xs)) rs) r
def yP:List AV->AV
 | [x]=>x
 |l=>.tup l
def sZ (P:Program) (rs:List ResultVar) (B:List Name) (r:AV) (hout:List Blk) (σ:St):Prop:=
 aAC P σ (λxs=>∃L1 L2,conv (aB σ.h) 8 B false (yP xs)=some (r,L1)∧rP (aB σ.h) B B=some (hout,L2)) rs
def aHi (tmps:Array Value):ResultVar->Sem Value
 |.tmp t=>pure (tmps.getD t undef)
 |.cell A T=>do loadVar T (←asAddr (tmps.getD A undef))
theorem aKM {σ:St}{K:AV->Prop} (H:OK C σ.f a w S ρ κ) {r:ResultVar} (h:aHh P σ K r) :
  ∃x v,K x∧RV S w ρ κ σ.f.h x v∧(aHi a.tmps r).run P w=.ok v w:=by
 cases r with
 |tmp t=>exact⟨_,_,h,H.slots t,by simp[aHi]⟩
 | cell A T =>
  simp only[aHh] at h;split at h
  .rename_i g k O;obtain⟨x,v,J,G,V⟩:=aIi H O h;refine⟨x,v,J,V,?_⟩;simp only[aHi];have e:a.eval (.tmp A)=a.tmps.getD A undef:=rfl;rw[e] at G;simp only[Instr.loadAt,Sem.run_bind] at G;simp only[rd] at h;have F:=H.ev (.tmp A);rw[e] at F;generalize a.tmps.getD A undef=va at F G⊢;split at h
   .rename_i c I;rw[show evO σ.f.s (.tmp A)=_ from I] at F;cases xI F with
    | ro _ b off xs _ _ _ _ =>
     grind [Sem.run_bind,asAddr,Instr.sureAddr,Sem.run_pure]
   .rename_i n Y c I;rw[show evO σ.f.s (.tmp A)=_ from I] at F;split at h
    .rename_i b M;obtain⟨y,Z,U⟩:=eH F b M
     all_goals grind [Sem.run_bind,asAddr,Instr.sureAddr,Sem.run_pure]
    .exact h.elim
   .exact h.elim
  .exact h.elim
theorem aFZ {σ:St} (F:OK C σ.f a w S ρ κ):∀{rs:List ResultVar}{K:List AV->Prop},aAC P σ K rs->
  ∃ xs vs,K xs∧vs.length=xs.length∧(∀j,j<xs.length->RV S w ρ κ σ.f.h (xs.getD j .junk) (vs.getD j undef))∧
   (rs.mapM (aHi a.tmps)).run P w=.ok vs w
 | [],K,h=>⟨[],[],h,rfl,by simp,by simp⟩
 | r::rs,K,h=>by
  obtain⟨x,v,G,h2,J⟩:=aKM F h;obtain⟨xs,vs,H,I,M,O⟩:=aFZ F G;refine⟨x::xs,v::vs,H,by simp[I],λj U=>?_,?_⟩
  all_goals grind [Sem.run_bind,Result.andThen_ok,Sem.run_pure,AV,aAC]
theorem aFc {σ:St} (G:OK C σ.f a w S ρ κ) {fn:Func}{K:AV->Prop} (h:aAC P σ (λxs=>K (yP xs)) fn.results.toList) :
  ∃x v,K x∧RV S w ρ κ σ.f.h x v∧(results fn a.tmps).run P w=.ok v w:=by
 obtain⟨xs,vs,H,h2,F,I⟩:=aFZ G h
 have O:(results fn a.tmps).run P w=.ok (if h:vs.toArray.size=1 then vs.toArray[0] else .tuple vs.toArray) w:=by
  have M:fn.results.mapM (aHi a.tmps)=(do pure (←fn.results.toList.mapM (aHi a.tmps)).toArray):=by
   rw[←Array.toArray_toList (xs:=fn.results),List.mapM_toArray];rfl
  change (do let vs ←fn.results.mapM (aHi a.tmps);pure (if h:vs.size=1 then vs[0] else .tuple vs):Sem Value).run P w=_
  rw[M];simp only[Sem.run_bind,I,Result.andThen_ok,Sem.run_pure]
 refine⟨_,_,H,?_,O⟩
 match xs,vs,h2,F with
 | [x],[v],_,F=>simpa[yP] using F 0 (by simp)
 | [],[],_,F=>exact .tup _ _ rfl (by simp)
 |x::x'::r,v::v'::r',h2,F=>exact .tup _ _ (by simpa using h2.symm) λj J=>by simpa using F j J
def ini:Nat->List AV->List (Nat×AV)
 |_,[]=>[]
 |i,x::r=>(i,x)::ini (i+1) r
theorem aDC:∀(l:List AV) (i t:Nat),look (ini i l) t=if i<=t∧t<i+l.length then l.getD (t-i) .junk else .junk
 | [],i,t=>by simp[ini,look]
 | x::r,i,t=>by
  simp only[ini,look,aDC r (i+1) t,Ac]
  all_goals grind
def xZ:Nat->List Blk->List (Name×Blk)
 |_,[]=>[]
 |i,b::r=>(.b i,b)::xZ (i+1) r
theorem aBl (d j:Nat):∀(l:List Blk) (i:Nat),aB (xZ i l) (.t d j)=none
 | [],i=>rfl
 |b::r,i=>by simp[xZ,aB,aBl d j r]
theorem aBm (j:Nat):∀(l:List Blk) (i:Nat),aB (xZ i l) (.b j)=if i<=j then l[j-i]? else none
 | [],i=>by simp[xZ,aB]
 | b::r,i=>by
  simp only[xZ,aB,Name.b.injEq,aBm j r]
  all_goals grind
theorem lS (l:List Blk):aB (xZ 0 l)=Hn (l.map some):=by
 funext n
 cases n with
 |t d j=>rw[aBl];rfl
 | b j =>
  grind [aBm,Hn]
def aFY (P:Program) (rs:List ResultVar) (B:List Name) (r:AV) (hout:List (Option Blk)) (σ:St):Prop:=
 aAC P σ (λxs=>∃L1 L2,conv (aB σ.h) 8 B false (yP xs)=some (r,L1)∧zQ (aB σ.h) B B=some (hout,L2)) rs
theorem Fn.introX {F:Nat->Array Oper->Option (List Nat)}{f:FuncId}{fn:Func} (ha:lX P F) {G:Code}{ac:aD}{hin:List Blk}{args:List AV}{r:AV}{hout:List (Option Blk)} (B:List Name) (U:(Name->Option Blk)->List Name->Prop) (Z:∀h L,U h L->zQ h B B=some (hout,L))
  (hf:P.funcs[f]? = some fn) (H:fn.body=some G) (M:fn.name≠"runtime.NumGoroutine") (hc:bN P fn.ntmps F G=some ac.bare) (hl:args.length<=fn.ntmps) (he:B.Nodup)
  (hB:∀j,j<hin.length->B[j]? = some (.b j))
  (hw:∀C:Ctx,C.nt=fn.ntmps->wpc P C F ac (fun σ=>aAC P σ (λxs=>∃L1 L2,conv (aB σ.h) 8 B false (yP xs)=some (r,L1)∧U (aB σ.h) L2) fn.results.toList) (λe σ=>match e with|.ret=>(fun σ=>aAC P σ (λxs=>∃L1 L2,conv (aB σ.h) 8 B false (yP xs)=some (r,L1)∧U (aB σ.h) L2) fn.results.toList) σ|.exit _=>False) ⟨ini 0 args,xZ 0 hin⟩) :
  Fn P f hin args r hout:=by
 refine⟨⟨fn,G,hf,H,M⟩,?_⟩;intro S w ρ κ vs hk _ ho J
 let C:Ctx:={nt:=fn.ntmps,w0:=w,S0:=S,Mut:=uQ ρ hin,ρ0:=λj=>ρ (.b j),κ0:=λj=>κ (.b j),h0:=λj=>hin[j]?}
 have hC:=hw C rfl;refine calls_of_wp hf H ?_
 have I:∀a w',dV C (fun σ=>aAC P σ (λxs=>∃L1 L2,conv (aB σ.h) 8 B false (yP xs)=some (r,L1)∧U (aB σ.h) L2) fn.results.toList) a w'->a.defers=[]∧∃v,(results fn a.tmps).run P w'=.ok v w'∧
   ∃v2 S' ρ' κ',Ending.returned v=.returned v2∧Post S w ρ κ hin S' w' ρ' κ' hout∧RV S' w' ρ' κ' (Hn hout) r v2:=by
  rintro a w' ⟨σ,S1,ρ1,κ1,hK,hok1⟩;refine⟨hok1.defers,?_⟩;obtain⟨x,v,⟨L1,L2,O,h2⟩,h3,h4⟩:=aFc hok1 (K:=λx=>∃L1 L2,conv (aB σ.h) 8 B false x=some (r,L1)∧U (aB σ.h) L2) hK;refine⟨v,h4,v,?_⟩;obtain⟨S',ρ',κ',g1,g2,g3,g4,g5,g6⟩:=aFw hok1.hok he h3 O (Z _ _ h2);refine⟨S',ρ',κ',rfl,⟨g1,hok1.size,λb H hm=>hok1.old b H hm,λb H=>g3 b (hok1.S0 b H),λb H=>?_,λj z V hz=>?_,hok1.out,λj b' V hd=>?_⟩,g2⟩
  .rcases g4 b H with h|⟨n,hn,h⟩
   .exact hok1.Snew b h
   .exact .inr (hok1.mine n b hn h)
  .obtain⟨n,hn,h⟩:=g5 j z V hz;exact hok1.mine n z hn h
  .obtain⟨e1,e2,e3⟩:=g6 j (.b j) (hB j V);obtain⟨b,h5,h6⟩:=e3 b' hd;obtain⟨e4,e5,b0,h7,h8⟩:=hok1.keep j b h5
   all_goals grind [Blk.same_trans]
 refine zU ha ac _ _ _ hC G _ _ w S ρ κ hc (λa w' hg=>I a w' hg) (λi a w' ⟨_,_,_,_,h,_⟩=>h.elim) (λa w' hg=>I a w' hg) ?_
 have Y:∀n,((Hn (hin.map some)) n).isSome->∃j,j<hin.length∧n=.b j:=by
  grind [Hn,Name]
 refine⟨?_,rfl,λt=>?_,by simp only[St.f,lS];exact hk,Au _,λ_ _ _=>rfl,λn x O h2=>?_,λ_ h=>h,λb H=>.inl H,⟨rfl,rfl⟩,λj b H=>?_⟩
 .simp only[C,Array.size_append,Array.size_replicate];omega
 .simp only[St.f,aDC,Nat.zero_le,Ck,Ca,Nat.sub_zero,lS];split
  .rename_i ht
   have e:(vs++Array.replicate (fn.ntmps-vs.size) undef).getD t undef=vs.getD t undef:=by
    have O:t<vs.size:=by omega
    simp[Cz,O]
   rw[e];exact J t ht
  .exact .junk _
 .simp only[St.f,lS] at O;obtain⟨j,V,rfl⟩:=Y n O;exact .inr ⟨j,V,h2⟩
 .simp only[St.f,lS] at H;refine⟨rfl,rfl,b,?_,b.same_refl⟩
  all_goals grind [Hn]
theorem Fn.intro {F:Nat->Array Oper->Option (List Nat)}{f:FuncId}{fn:Func} (I:lX P F) {G:Code}{ac:aD}{hin:List Blk}{args:List AV}{r:AV}{hout:List Blk} (B:List Name)
  (Y:P.funcs[f]? = some fn) (U:fn.body=some G) (H:fn.name≠"runtime.NumGoroutine") (V:bN P fn.ntmps F G=some ac.bare) (J:args.length<=fn.ntmps) (M:B.Nodup)
  (O:∀j,j<hin.length->B[j]? = some (.b j))
  (Z:∀C:Ctx,C.nt=fn.ntmps->wpc P C F ac (sZ P fn.results.toList B r hout) (λe σ=>match e with|.ret=>sZ P fn.results.toList B r hout σ|.exit _=>False) ⟨ini 0 args,xZ 0 hin⟩) :
  Fn P f hin args r (hout.map some):=
 Fn.introX I B (λh L=>rP h B B=some (hout,L)) (λh L=>aI0 h B) Y U H V J M O Z
theorem Fn.introD {F:Nat->Array Oper->Option (List Nat)}{f:FuncId}{fn:Func} (I:lX P F) {G:Code}{ac:aD}{hin:List Blk}{args:List AV}{r:AV}{hout:List (Option Blk)} (B:List Name)
  (Y:P.funcs[f]? = some fn) (U:fn.body=some G) (H:fn.name≠"runtime.NumGoroutine") (V:bN P fn.ntmps F G=some ac.bare) (J:args.length<=fn.ntmps) (M:B.Nodup)
  (O:∀j,j<hin.length->B[j]? = some (.b j))
  (Z:∀C:Ctx,C.nt=fn.ntmps->wpc P C F ac (aFY P fn.results.toList B r hout) (λe σ=>match e with|.ret=>aFY P fn.results.toList B r hout σ|.exit _=>False) ⟨ini 0 args,xZ 0 hin⟩) :
  Fn P f hin args r hout:=
 Fn.introX I B (λh L=>zQ h B B=some (hout,L)) (λ_ _ h=>h) Y U H V J M O Z
end
section
variable [Envs]
def xG:AOp->Bool
 |.box _|.alloc _|.bslice .. | .mk .. | .call .. | .store .. | .append .. | .appendC .. | .bsliceC .. | .clr ..=>false
 |_=>true
end
section
variable [Envs]
def aN:AOp->List Operand
 |.mv x=>[x]
 |.pick c a b=>[c,a,b]
 |.load _ _ a=>[a]
 |.fieldAddr _ x=>[x]
 |.loadV _ _ a=>[a]
 |.fieldV _ x=>[x]
 |.field _ _ _ x=>[x]
 |.idxSl _ x i=>[x,i]
 |.idxArr _ _ x i=>[x,i]
 |.idxAgg _ _ _ x i=>[x,i]
 |.idxStr x i=>[x,i]
 |.bin _ x y=>[x,y]
 |.binS _ x y=>[x,y]
 |.binB _ x y=>[x,y]
 |.un _ x=>[x]
 |.conv _ x=>[x]
 |.b2s x=>[x]
 |.eqA _ _ x y=>[x,y]
 |.idxB x y=>[x,y]
 |.len x=>[x]
 |.lenS x=>[x]
 |.lenC _=>[]
 |.slc _ x a b=>x::(a.toList++b.toList)
 |.sstr x a b=>x::(a.toList++b.toList)
 |.nilc x=>[x]
 |.extract x _=>[x]
 |.build _ ps=>ps.map λp=>p.2.2
 |.mkfn _ cs=>cs
 |.mm _ x y=>[x,y]
 |.box x=>[x]
 |.alloc _=>[]
 |.bslice _ _ _ ps=>ps.map λp=>p.2
 |.mk _ _ _ n=>[n]
 |.call f a _=>f::a
 |.store _ a x=>[a,x]
 |.append _ _ a x=>[a,x]
 |.appendC _ _ a x=>[a,x]
 |.bsliceC _ _ _ ps=>ps.map λp=>p.2
 |.clr _ _ x=>[x]
def Agr (N:Name->Prop) (h h':Name->Option Blk):Prop:=∀n,¬N n->(h n).map frz=(h' n).map frz
def Off (N:Name->Prop) (x:AV):Prop:=∀n,N n->x.has n=false
def eD (N:Name->Prop) (c:List AV):Prop:=∀n,N n->mD n c=false
def aD6 (N:Name->Prop) (b:Blk):Prop:=∀n,N n->b.has n=false
variable {N:Name->Prop}{h h':Name->Option Blk}{ev ev':Operand->AV}
theorem Agr.symm (F:Agr N h h'):Agr N h' h:=λn G=>(F n G).symm
theorem Agr.none (F:Agr N h h') {n:Name} (G:¬N n) (hh:h n=none):h' n=none:=by
 have:=F n G;rw[hh] at this;cases hx:h' n with
 |none=>rfl
 |some b=>rw[hx] at this;simp at this
theorem Agr.some (G:Agr N h h') {n:Name} (H:¬N n) {b:Blk} (hh:h n=some b):∃F,h' n=some F∧frz F=frz b:=by
 have:=G n H;rw[hh] at this;cases hx:h' n with
 |none=>rw[hx] at this;simp at this
 |some F=>rw[hx] at this;simp at this;exact⟨F,rfl,this.symm⟩
theorem aNh {b F:Blk} (G:frz F=frz b) (e:Nat):F.row e=b.row e:=by
 cases b<;>cases F<;>simp[frz] at G<;>simp[Blk.row,G];cases e<;>simp[Blk.row,G]
theorem aAo {b:Blk}{k:Nat}{l:List (List AV)}{z:Bool} (G:frz b=frz (.arr k l z)):∃F,b=.arr k l F:=by
 grind [frz,Blk]
theorem aCV {b:Blk}{c:List AV}{z:Bool} (G:frz b=frz (.var c z)):∃F,b=.var c F:=by
 grind [frz,Blk]
theorem aNi {b F:Blk} (G:frz F=frz b) (n:Name):F.has n=b.has n:=by
 grind [frz,Blk.has,Blk]
theorem Off.ptr {n:Name}{e c:Nat} (G:Off N (.ptr n e c)):¬N n:=λF=>by simpa[AV.has] using G n F
theorem Off.loc {n:Name}{e c:Nat} (G:Off N (.loc n e c)):¬N n:=λF=>by simpa[AV.has] using G n F
theorem Off.agg {c:List AV} (G:Off N (.agg c)):eD N c:=λn F=>by simpa[AV.has] using G n F
theorem Off.tup {c:List AV} (G:Off N (.tup c)):eD N c:=λn F=>by simpa[AV.has] using G n F
theorem Off.fn {f:FuncId}{c:List AV} (G:Off N (.fn f c)):eD N c:=λn F=>by simpa[AV.has] using G n F
theorem eD.cons {x:AV}{c:List AV} (G:eD N (x::c)):Off N x∧eD N c:=
 ⟨λn F=>by have:=G n F;simp[mD] at this;exact this.1,λn F=>by have:=G n F;simp[mD] at this;exact this.2⟩
theorem eD.mk_cons {x:AV}{c:List AV} (H:Off N x) (G:eD N c):eD N (x::c):=λn F=>by simp[mD,H n F,G n F]
theorem eD.nil:eD N []:=λ_ _=>rfl
theorem eD.mem:∀{c:List AV},eD N c->∀x,x∈c->Off N x
 | [],_,x,hx=>by cases hx
 | y::r,ho,x,hx=>by
  rcases Am.1 hx with rfl|hx
  .exact ho.cons.1
  .exact eD.mem ho.cons.2 x hx
theorem eD.of_mem:∀{c:List AV},(∀x,x∈c->Off N x)->eD N c
 | [],_=>eD.nil
 |_::_,h=>eD.mk_cons (h _ (by simp)) (eD.of_mem λx F=>h x (by simp[F]))
theorem Off.v (x:Value):Off N (.v x):=λ_ _=>rfl
theorem Off.junk:Off N .junk:=λ_ _=>rfl
theorem Off.sl (k:Nat) (l:List (List AV)):Off N (.sl k l):=λ_ _=>rfl
theorem Off.ro (c:List AV):Off N (.ro c):=λ_ _=>rfl
theorem Off.mk_agg {c:List AV} (G:eD N c):Off N (.agg c):=λn F=>by simpa[AV.has] using G n F
theorem Off.mk_fn {f:FuncId}{c:List AV} (G:eD N c):Off N (.fn f c):=λn F=>by simpa[AV.has] using G n F
theorem Off.mk_tup {c:List AV} (G:eD N c):Off N (.tup c):=λn F=>by simpa[AV.has] using G n F
theorem Off.mk_ptr {n:Name}{e c:Nat} (G:¬N n):Off N (.ptr n e c):=λm F=>by
 grind [AV.has]
theorem Off.mk_loc {n:Name}{e c:Nat} (G:¬N n):Off N (.loc n e c):=λm F=>by
 grind [AV.has]
theorem aDp (G:Agr N h h') {x:AV} (H:Off N x):tH h x=tH h' x:=by
 cases x<;>try rfl
 case loc n off len =>
  simp only[tH];cases hx:h n with
  |none=>rw[G.none H.loc hx]
  | some b =>
   obtain⟨I,F,e⟩:=G.some H.loc hx;rw[F];cases b<;>cases I<;>simp[frz] at e<;>rfl
 case ptr n e c =>
  simp only[tH];cases hx:h n with
  |none=>rw[G.none H.ptr hx]
  | some b =>
   obtain⟨I,F,e⟩:=G.some H.ptr hx;rw[F];rfl
theorem aB8 {p q:AV->Bool}:∀{c:List AV},(∀x,x∈c->p x=q x)->c.all p=c.all q
 | [],_=>rfl
 |x::r,h=>by simp only[BJ,h x (by simp),aB8 (c:=r) λy F=>h y (by simp[F])]
theorem aDX (F:Agr N h h') {x:AV} (G:Off N x):lV h x=lV h' x:=by
 cases x
 case agg c =>
  simp only[lV];rw[aB8 (q:=tH h') λx H=>aDp F (G.agg.mem x H)]
 all_goals simp only[lV,aDp F G]
theorem aHR {x:AV} (G:Off N x) {c:List AV} (F:lV h x=some c):eD N c:=by
 cases x
 case agg c' =>
  simp only[lV] at F;split at F
  .obtain rfl:=Ay F;exact G.agg
  .cases F
 all_goals grind [lV,eD.mk_cons,eD.nil]
theorem aAF (I:Agr N h h'):∀{F:List (Nat×Nat×Operand)}{cs:List AV}{K:List AV->Prop},(∀p,p∈F->ev p.2.2=ev' p.2.2∧Off N (ev p.2.2))->layAll ev h cs F K->layAll ev' h' cs F K
 | [],_,_,_,hk=>hk
 | (o,n,x)::r,cs,K,he,hk=>by
  obtain⟨G,H⟩:=he (o,n,x) (by simp);simp only at G H;simp only[layAll] at hk⊢;rw[←G,←aDX I H];split at hk
  .exact⟨hk.1,aAF I (λp J=>he p (by simp[J])) hk.2⟩
  .exact hk
theorem yS:∀{G:List (Nat×Nat×Operand)}{cs:List AV}{K F:List AV->Prop},(∀c,K c->F c)->layAll ev h cs G K->layAll ev h cs G F
 | [],_,_,_,hh,hk=>hh _ hk
 | (o,n,x)::r,cs,K,F,hh,hk=>by
  simp only[layAll] at hk⊢;split at hk
  .exact⟨hk.1,yS hh hk.2⟩
  .exact hk
theorem xD:∀{F:List (Nat×Nat×Operand)}{cs:List AV}{K:List AV->Prop},layAll ev h cs F K->∃c,K c∧layAll ev h cs F (λG=>G=c)
 | [],cs,_,hk=>⟨cs,hk,rfl⟩
 | (o,n,x)::r,cs,K,hk=>by
  simp only[layAll] at hk⊢;split at hk
  .obtain⟨c,H,h2⟩:=xD hk.2;exact⟨c,H,hk.1,h2⟩
  .exact hk.elim
end
section
variable [Envs]
variable {N:Name->Prop}{h h':Name->Option Blk}{ev ev':Operand->AV}
theorem aJo (F:Agr N h h') {k:Nat}{x:AV} (G:Off N x):qQ k h x=qQ k h' x:=by
 cases x<;>try rfl
 case v x=>unfold qQ;split<;>first|rfl|simp_all
 case loc n off len =>
  simp only[qQ];cases hx:h n with
  |none=>rw[F.none G.loc hx]
  | some b =>
   obtain⟨I,H,e⟩:=F.some G.loc hx
   all_goals grind [aAo]
theorem aOb (U:Agr N h h') {op:AOp}{K:AV->Prop} (G:∀o,o∈aN op->ev o=ev' o∧Off N (ev o)) (F:rd ev h K op):rd ev' h' K op:=by
 cases op
 case mv x=>simpa only[rd,(G x (by simp[aN])).1] using F
 case pick c a b =>
  simp only[rd] at F⊢
  all_goals grind [aN]
 case load g k a =>
  have⟨J,H⟩:=G a (by simp[aN]);simp only[rd,←J] at F⊢;split at F
  .exact F
  .rename_i n e c O;rw[O] at H;split at F
   .rename_i b M;obtain⟨Y,I,V⟩:=U.some H.ptr M;simp only[I,aNh V];exact F
   .exact F.elim
  .exact F.elim
 case fieldAddr off x =>
  have⟨J,H⟩:=G x (by simp[aN]);simp only[rd,←J] at F⊢;split at F
  .rename_i n e c O;rw[O] at H;split at F
   .rename_i b M;obtain⟨Y,I,V⟩:=U.some H.ptr M;simp only[I];exact F
   .exact F.elim
  .exact F
  .exact F.elim
 case loadV g k a =>
  have⟨J,H⟩:=G a (by simp[aN]);simp only[rd,←J] at F⊢;split at F
  .rename_i n e c O;rw[O] at H;split at F
   .rename_i cs z M;obtain⟨Y,I,V⟩:=U.some H.ptr M;obtain⟨z',rfl⟩:=aCV V;simp only[I];have er:(Blk.var cs z').row e=(Blk.var cs z).row e:=by cases e<;>rfl
    rw[er];exact F
   .exact F.elim
  .exact F.elim
 case fieldV off x =>
  have⟨J,H⟩:=G x (by simp[aN]);simp only[rd,←J] at F⊢;split at F
  .rename_i n e c O;rw[O] at H;split at F
   .rename_i cs z M;obtain⟨Y,I,V⟩:=U.some H.ptr M
    all_goals grind [aCV]
   .exact F.elim
  .exact F.elim
 case field g off k x=>simpa only[rd,(G x (by simp[aN])).1] using F
 case idxSl k x i =>
  have⟨J,H⟩:=G x (by simp[aN]);have⟨Z,_⟩:=G i (by simp[aN]);simp only[rd,←J,←Z] at F⊢;split at F
  .exact F
  .rename_i n off len kk i' O hi;rw[O] at H;split at F
   .rename_i k' l z M;obtain⟨Y,I,V⟩:=U.some H.loc M
    all_goals grind [aAo]
   .exact F.elim
  .exact F.elim
 case idxArr n k x i =>
  have⟨J,H⟩:=G x (by simp[aN]);have⟨Z,_⟩:=G i (by simp[aN]);simp only[rd,←J,←Z] at F⊢;split at F
  .exact F
  .rename_i m e c kk i' O hi;rw[O] at H;split at F
   .rename_i b M;obtain⟨Y,I,V⟩:=U.some H.ptr M;simp only[I];exact F
   .exact F.elim
  .exact F.elim
 case idxAgg g n k x i=>simpa only[rd,(G x (by simp[aN])).1,(G i (by simp[aN])).1] using F
 case idxStr x i=>simpa only[rd,(G x (by simp[aN])).1,(G i (by simp[aN])).1] using F
 case bin o x y=>simpa only[rd,(G x (by simp[aN])).1,(G y (by simp[aN])).1] using F
 case binS o x y=>simpa only[rd,(G x (by simp[aN])).1,(G y (by simp[aN])).1] using F
 case binB o x y=>simpa only[rd,(G x (by simp[aN])).1,(G y (by simp[aN])).1] using F
 case un o x=>simpa only[rd,(G x (by simp[aN])).1] using F
 case conv k x=>simpa only[rd,(G x (by simp[aN])).1] using F
 case len x =>
  have⟨J,H⟩:=G x (by simp[aN]);simp only[rd,←J] at F⊢;split at F
  .exact F
  .rename_i n off len O;rw[O] at H;split at F
   .rename_i k' l z M;obtain⟨Y,I,V⟩:=U.some H.loc M
    all_goals grind [aAo]
   .exact F.elim
  .exact F
  .exact F.elim
 case lenS x=>simpa only[rd,(G x (by simp[aN])).1] using F
 case lenC n=>exact F
 case slc k x lo hi =>
  have⟨J,H⟩:=G x (by simp[aN])
  have Z:lo.map ev=lo.map ev':=by
   cases lo with
   |none=>rfl
   |some o=>simp[(G o (by simp[aN])).1]
  have e4:hi.map ev=hi.map ev':=by
   cases hi with
   |none=>rfl
   |some o=>simp[(G o (by simp[aN])).1]
  simp only[rd,←J,←Z,←e4] at F⊢;split at F
  .exact F
  .rename_i n off len O;rw[O] at H;split at F
   .rename_i k' l z M;obtain⟨Y,I,V⟩:=U.some H.loc M
    all_goals grind [aAo]
   .exact F.elim
  .exact F.elim
 case sstr x lo hi =>
  have⟨J,H⟩:=G x (by simp[aN])
  have Z:lo.map ev=lo.map ev':=by
   cases lo with
   |none=>rfl
   |some o=>simp[(G o (by simp[aN])).1]
  have e4:hi.map ev=hi.map ev':=by
   cases hi with
   |none=>rfl
   |some o=>simp[(G o (by simp[aN])).1]
  simpa only[rd,←J,←Z,←e4] using F
 case nilc x =>
  have⟨J,H⟩:=G x (by simp[aN]);simp only[rd,←J] at F⊢;split at F
  .exact F
  .rename_i n e c O;rw[O] at H;split at F
   .rename_i b M;obtain⟨Y,I,V⟩:=U.some H.ptr M;simp only[I];exact F
   .exact F.elim
  .exact F
  .exact F.elim
 case extract x i=>simpa only[rd,(G x (by simp[aN])).1] using F
 case build z ps =>
  simp only[rd] at F⊢
  all_goals grind [aAF,aN]
 case mkfn f cs =>
  simp only[rd] at F⊢
  all_goals grind [List.map_congr_left,aN]
 case mm mx x y=>simpa only[rd,(G x (by simp[aN])).1,(G y (by simp[aN])).1] using F
 case b2s x =>
  have⟨J,H⟩:=G x (by simp[aN]);simp only[rd,←J,←aJo U H] at F⊢;exact F
 case eqA neg ks x y=>simpa only[rd,(G x (by simp[aN])).1,(G y (by simp[aN])).1] using F
 case idxB x y=>simpa only[rd,(G x (by simp[aN])).1,(G y (by simp[aN])).1] using F
 all_goals exact F.elim
theorem aHU {op:BinOp}{k H:IntKind}{a b:Int}{K:AV->Prop} (F:aGV op k H a b K):∃x:Value,K (.v x)∧∀G:AV->Prop,G (.v x)->aGV op k H a b G:=by
 cases op<;>simp only[aGV] at F⊢<;> exact⟨_,F.2,λ_ I=>⟨F.1,I⟩⟩
theorem aFE {op:BinOp}{a b:ByteArray}{K:AV->Prop} (G:aB6 op a b K):∃x:Value,K (.v x)∧∀F:AV->Prop,F (.v x)->aB6 op a b F:=by
 grind [aB6,BinOp]
theorem aEf {op:BinOp}{a b:Bool}{K:AV->Prop} (G:aAs op a b K):∃x:Value,K (.v x)∧∀F:AV->Prop,F (.v x)->aAs op a b F:=by
 grind [aAs,BinOp]
inductive Nm:(Name->Prop)->AV->Prop
 |junk (p:Name->Prop):Nm p .junk
 |v (p:Name->Prop) (x:Value):Nm p (.v x)
 |sl (p:Name->Prop) (k:Nat) (l:List (List AV)) (hl:∀r,r∈l->∀x,x∈r->Nm (λ_=>False) x):Nm p (.sl k l)
 |ro (p:Name->Prop) (c:List AV) (hc:∀x,x∈c->Nm (λ_=>False) x):Nm p (.ro c)
 |loc (p:Name->Prop) (n:Name) (off len:Nat) (hn:p n):Nm p (.loc n off len)
 |ptr (p:Name->Prop) (n:Name) (e c:Nat) (hn:p n):Nm p (.ptr n e c)
 |fn (p:Name->Prop) (f:FuncId) (c:List AV) (hc:∀x,x∈c->Nm p x):Nm p (.fn f c)
 |agg (p:Name->Prop) (c:List AV) (hc:∀x,x∈c->Nm p x):Nm p (.agg c)
 |tup (p:Name->Prop) (c:List AV) (hc:∀x,x∈c->Nm p x):Nm p (.tup c)
def NmL (p:Name->Prop) (c:List AV):Prop:=∀x,x∈c->Nm p x
def NmB (p:Name->Prop):Blk->Prop
 |.var c _=>NmL p c
 |.arr _ l _=>∀r,r∈l->NmL (λ_=>False) r
theorem Nm.mono {p q:Name->Prop}{x:AV} (G:Nm p x) (F:∀n,p n->q n):Nm q x:=by
 induction G with
 |junk=>exact .junk _
 |v=>exact .v _ _
 |sl _ k l hl _=>exact .sl _ k l hl
 |ro _ c hc _=>exact .ro _ c hc
 |loc _ n off len hn=>exact .loc _ n off len (F n hn)
 |ptr _ n e c hn=>exact .ptr _ n e c (F n hn)
 |fn _ f c hc ih=>exact .fn _ f c λx G=>ih x G F
 |agg _ c hc ih=>exact .agg _ c λx G=>ih x G F
 |tup _ c hc ih=>exact .tup _ c λx G=>ih x G F
theorem Nm.off {p:Name->Prop}{x:AV} (F:Nm p x) (G:∀n,p n->¬N n):Off N x:=by
 induction F with
 |junk=>exact Off.junk
 |v=>exact Off.v _
 |sl=>exact Off.sl _ _
 |ro=>exact Off.ro _
 |loc _ n off len hn=>exact Off.mk_loc (G n hn)
 |ptr _ n e c hn=>exact Off.mk_ptr (G n hn)
 |fn _ f c hc ih=>exact Off.mk_fn (eD.of_mem λx F=>ih x F G)
 |agg _ c hc ih=>exact Off.mk_agg (eD.of_mem λx F=>ih x F G)
 |tup _ c hc ih=>exact Off.mk_tup (eD.of_mem λx F=>ih x F G)
theorem Nm.of_off {p:Name->Prop}{x:AV} (F:Nm p x) (G:Off N x):Nm (λn=>¬N n) x:=by
 induction F with
 |junk=>exact .junk _
 |v=>exact .v _ _
 |sl _ k l hl _=>exact .sl _ k l hl
 |ro _ c hc _=>exact .ro _ c hc
 |loc _ n off len hn=>exact .loc _ n off len G.loc
 |ptr _ n e c hn=>exact .ptr _ n e c G.ptr
 |fn _ f c hc ih=>exact .fn _ f c λx F=>ih x F (G.fn.mem x F)
 |agg _ c hc ih=>exact .agg _ c λx F=>ih x F (G.agg.mem x F)
 |tup _ c hc ih=>exact .tup _ c λx F=>ih x F (G.tup.mem x F)
theorem Nm.getD {p:Name->Prop}{c:List AV} (F:NmL p c) (j:Nat):Nm p (c.getD j .junk):=by
 grind [NmL,Nm]
theorem NmL.drop {p:Name->Prop}{c:List AV} (F:NmL p c) (j:Nat):NmL p (c.drop j):=λx G=>F x (CZ G)
theorem NmL.take {p:Name->Prop}{c:List AV} (F:NmL p c) (j:Nat):NmL p (c.take j):=λx G=>F x (CE G)
theorem NmL.mk {p:Name->Prop}{g:Bool}{c:List AV} (F:NmL p c):Nm p (AV.mk g c):=by
 cases g
 .cases c with
  |nil=>exact .junk _
  |cons x r=>exact F x (by simp)
 .exact .agg _ c F
theorem NmL.closed {p:Name->Prop}{c:List AV} (F:NmL (λ_=>False) c):NmL p c:=λx G=>(F x G).mono λ_ h=>h.elim
theorem Nm.xI {p:Name->Prop}{c:List AV} (h:Nm p (.ro c)):NmL (λ_=>False) c:=by cases h;assumption
theorem Nm.yX {p:Name->Prop}{k:Nat}{l:List (List AV)} (h:Nm p (.sl k l)):∀r,r∈l->NmL (λ_=>False) r:=by cases h;assumption
theorem Nm.eH {p:Name->Prop}{n:Name}{e c:Nat} (h:Nm p (.ptr n e c)):p n:=by cases h;assumption
theorem Nm.iT {p:Name->Prop}{n:Name}{e c:Nat} (h:Nm p (.loc n e c)):p n:=by cases h;assumption
theorem Nm.aCU {p:Name->Prop}{c:List AV} (h:Nm p (.tup c)):NmL p c:=by cases h;assumption
theorem NmB.row {p:Name->Prop}{b:Blk} (G:NmB p b) (e:Nat):NmL p (b.row e):=by
 cases b with
 | var c z=>cases e with
  |zero=>exact G
  |succ e=>intro x F;simp[Blk.row] at F
 | arr k l z =>
  intro x F;simp only[Blk.row] at F;rcases Db e l.length with h|h
  .have:l.getD e []=l[e]:=by simp[List.getD,h]
   rw[this] at F;exact(G _ (Aa h) x F).mono λ_ h=>h.elim
  all_goals grind
theorem aJ6 {p:Name->Prop}{x:AV} (G:Nm p x) {c:List AV} (F:lV h x=some c):NmL p c:=by
 grind [lV,Nm,NmL]
theorem aLi {p:Name->Prop}:∀{xs cs:List AV}{o:Nat},NmL p xs->NmL p cs->NmL p (lay cs o xs)
 | [],_,_,_,hc=>hc
 | x::r,cs,o,hx,hc=>by
  rw[lay];refine aLi (λy F=>hx y (by simp[F])) λy F=>?_
  all_goals grind [NmL]
theorem aEw {p:Name->Prop}:∀{G:List (Nat×Nat×Operand)}{cs:List AV}{c:List AV},(∀q,q∈G->Nm p (ev q.2.2))->NmL p cs->layAll ev h cs G (λH=>H=c)->NmL p c
 | [],_,_,_,hc,hk=>by cases hk;exact hc
 | (o,n,x)::r,cs,K,he,hc,hk=>by
  simp only[layAll] at hk;split at hk
  .rename_i c F;exact aEw (λp I=>he p (by simp[I])) (aLi (aJ6 (he (o,n,x) (by simp)) F) hc) hk.2
  .exact hk.elim
theorem aDg {op:AOp}{K:AV->Prop} (F:rd ev h K op):∃x,K x∧(∀M:AV->Prop,M x->rd ev h M op)∧
  ∀p:Name->Prop,(∀z V,op=.build z V->NmL p z)->(∀o,o∈aN op->Nm p (ev o))->(∀n b,p n->h n=some b->NmB p b)->Nm p x:=by
 cases op
 case mv x=>exact⟨_,F,λ_ G=>G,λp _ H _=>H x (by simp[aN])⟩
 case pick c a b =>
  simp only[rd] at F⊢;split at F
  .rename_i t ht;cases t
   .exact⟨_,F.get.2 rfl,λ_ G=>Br.mk (λh=>(by cases h)) (λ_=>G),λp _ H _=>H b (by simp[aN])⟩
   .exact⟨_,F.get.1 rfl,λ_ G=>Br.mk (λ_=>G) (λh=>(by cases h)),λp _ H _=>H a (by simp[aN])⟩
  .exact F.elim
 case load g k a =>
  simp only[rd] at F⊢;split at F
  .rename_i c J
   exact ⟨_,F.2,λ_ G=>⟨F.1,G⟩,λp _ H _=>by
     have:=H a (by simp[aN]);rw[J] at this;exact NmL.mk (NmL.take (NmL.closed this.xI) _)⟩
  .rename_i n e c J;split at F
   .rename_i b O
    exact ⟨_,F.2,λ_ G=>⟨F.1,G⟩,λp _ H hh=>by
      have:=H a (by simp[aN]);rw[J] at this;exact NmL.mk (NmL.take (NmL.drop ((hh n b this.eH O).row e) _) _)⟩
   .exact F.elim
  .exact F.elim
 case fieldAddr off x =>
  simp only[rd] at F⊢
  all_goals grind [aN,Nm]
 case loadV g k a =>
  simp only[rd] at F⊢;split at F
  .rename_i n e c J;split at F
   .rename_i cs z O
    exact ⟨_,F.2,λ_ G=>⟨F.1,G⟩,λp _ H hh=>by
      have:=H a (by simp[aN]);rw[J] at this;exact NmL.mk (NmL.take (NmL.drop ((hh n _ this.eH O).row e) _) _)⟩
   .exact F.elim
  .exact F.elim
 case fieldV off x =>
  simp only[rd] at F⊢
  all_goals grind [aN,Nm]
 case field g off k x =>
  simp only[rd] at F⊢
  all_goals grind [aN,NmL.mk,NmL,Nm]
 case idxSl k x i =>
  simp only[rd] at F⊢
  all_goals grind [aN,Nm]
 case idxArr n k x i =>
  simp only[rd] at F⊢
  all_goals grind [aN,Nm]
 case idxAgg g n k x i =>
  simp only[rd] at F⊢
  all_goals grind [aN,NmL.mk,NmL,Nm]
 case idxStr x i =>
  simp only[rd] at F⊢
  all_goals grind [Nm]
 case bin o x y =>
  simp only[rd] at F⊢
  all_goals grind [aHU,Nm]
 case binS o x y =>
  simp only[rd] at F⊢
  all_goals grind [aFE,Nm]
 case binB o x y =>
  simp only[rd] at F⊢
  all_goals grind [aEf,Nm]
 case un o x =>
  simp only[rd] at F⊢
  all_goals grind [Nm]
 case conv k x =>
  simp only[rd] at F⊢
  all_goals grind [Nm]
 case len x =>
  simp only[rd] at F⊢
  all_goals grind [Nm]
 case lenS x =>
  simp only[rd] at F⊢
  all_goals grind [Nm]
 case lenC n=>exact⟨_,F,λ_ G=>G,λp _ _ _=>.v _ _⟩
 case slc k x lo hi =>
  simp only[rd] at F⊢;split at F
  .rename_i k' l J
   have I:∀p:Name->Prop,(∀o,o∈aN (.slc k x lo hi)->Nm p (ev o))->∀a b,Nm p (.sl k ((l.take a).drop b)):=λp H a b=>by
    have:=H x (by simp[aN]);rw[J] at this;exact .sl _ _ _ λr hr=>this.yX r (CE (CZ hr))
   split at F
   .exact⟨_,F.2,λ_ G=>⟨F.1,G⟩,λp _ H _=>I p H _ _⟩
   .exact⟨_,F.2,λ_ G=>⟨F.1,G⟩,λp _ H _=>I p H _ _⟩
   .exact⟨_,F.2,λ_ G=>⟨F.1,G⟩,λp _ H _=>I p H _ _⟩
   .exact⟨_,F.2,λ_ G=>⟨F.1,G⟩,λp _ H _=>I p H _ _⟩
   .exact F.elim
  .rename_i n off len J
   have I:∀p:Name->Prop,(∀o,o∈aN (.slc k x lo hi)->Nm p (ev o))->∀a b,Nm p (.loc n a b):=λp H a b=>by
    have:=H x (by simp[aN]);rw[J] at this;exact .loc _ _ _ _ this.iT
   split at F
   .split at F
    .exact⟨_,F.2,λ_ G=>⟨F.1,G⟩,λp _ H _=>I p H _ _⟩
    .exact⟨_,F.2,λ_ G=>⟨F.1,G⟩,λp _ H _=>I p H _ _⟩
    .exact⟨_,F.2,λ_ G=>⟨F.1,G⟩,λp _ H _=>I p H _ _⟩
    .exact⟨_,F.2,λ_ G=>⟨F.1,G⟩,λp _ H _=>I p H _ _⟩
    .exact F.elim
   .exact F.elim
  .exact F.elim
 case sstr x lo hi =>
  simp only[rd] at F⊢
  all_goals grind [Nm]
 case nilc x =>
  simp only[rd] at F⊢
  all_goals grind [aN]
 case extract x i =>
  simp only[rd] at F⊢
  all_goals grind [aN,Nm]
 case build z V =>
  simp only[rd] at F⊢;obtain⟨c,Y,h2⟩:=xD F;refine⟨_,Y,?_,λp hz H _=>?_⟩
  .exact λM G=>yS (λc' U=>by rw[U];exact G) h2
  .exact .agg _ _ (aEw (λq Z=>H _ (by simp only[aN,Bq];exact⟨q,Z,rfl⟩)) (hz z V rfl) h2)
 case mkfn f cs =>
  simp only[rd] at F⊢
  all_goals grind [aN,Nm]
 case mm mx x y =>
  simp only[rd] at F⊢
  all_goals grind [Nm]
 case b2s x =>
  simp only[rd] at F⊢
  all_goals grind [Nm]
 case idxB x y =>
  simp only[rd] at F⊢
  all_goals grind [Nm]
 case eqA neg ks x y =>
  simp only[rd] at F⊢
  all_goals grind [Nm]
 all_goals exact F.elim
end
section
variable [Envs]
variable {P:Program}{C:Ctx}{a:Act}{w:World}{S:Nat->Prop}{ρ:Name->Option Nat}{κ:Name->Nat}
variable {N:Name->Prop}{h h':Name->Option Blk}{ev ev':Operand->AV}
theorem aOZ {n:Name} (H:Agr N h h') {op:AOp}{K:AV->Blk->Prop} (U:∀z,op=.alloc z->eD N z) (F:∀k m z G,op=.bslice k m z G->eD N z) (M:∀k m z x,op=.mk k m z x->eD N z)
  (O:∀o,o∈aN op->ev o=ev' o∧Off N (ev o)) (I:al ev h n K op):al ev' h' n K op:=by
 cases op
 all_goals try grind [aN,al,aDX,tH,nQ,AV]
 case bslice k m z G =>
  simp only[al] at I⊢;rw[←aB8 (p:=tH h) λx J=>aDp H ((F k m z G rfl).mem x J)]
  all_goals grind [aAF,aN]
 all_goals grind [aN,al,tH,nQ,AV]
theorem zS {n:Name}{op:AOp}{K:AV->Blk->Prop} (F:al ev h n K op):∃x b,K x b∧(∀I:AV->Blk->Prop,I x b->al ev h n I op)∧
  (∀N:Name->Prop,¬N n->Off N x)∧∀N:Name->Prop,(∀z,op=.alloc z->eD N z)->(∀o,o∈aN op->Off N (ev o))->aD6 N b:=by
 cases op
 case box x =>
  simp only[al] at F⊢;split at F
  .rename_i c U;exact⟨_,_,F,λ_ h=>h,λN G=>Off.mk_ptr G,λN _ V m H=>aHR (V x (by simp[aN])) U m H⟩
  .exact F.elim
 case alloc z =>
  simp only[al] at F⊢;exact⟨_,_,F.2,λ_ h=>⟨F.1,h⟩,λN G=>Off.mk_ptr G,λN Y _ m H=>Y z rfl m H⟩
 case bslice k m z ps =>
  simp only[al] at F⊢;obtain⟨c,⟨M,h2⟩,O⟩:=xD F.2;refine⟨_,_,h2,λI h=>⟨F.1,yS (λZ J=>?_) O⟩,λN G=>Off.mk_loc G,λN _ _ m H=>rfl⟩;rw[J];exact⟨M,h⟩
 case mk k y z x =>
  simp only[al] at F⊢;split at F
  .exact⟨_,_,F.2,λ_ h=>⟨F.1,h⟩,λN G=>Off.mk_loc G,λN _ _ m H=>rfl⟩
  .exact F.elim
 all_goals exact F.elim
theorem aDB {f g:AV->Option (AV×List Name)}:∀{c:List AV},(∀x,x∈c->f x=g x)->dG f c=dG g c
 | [],_=>rfl
 |x::r,hh=>by simp only[dG,hh x (by simp),aDB (c:=r) λy F=>hh y (by simp[F])]
theorem aAE {f:AV->Option (AV×List Name)} (p:Name->Prop):∀{c F:List AV}{L:List Name},(∀x,x∈c->∀y L,f x=some (y,L)->∀n,n∈L->p n)->dG f c=some (F,L)->∀n,n∈L->p n
 | [],F,L,_,hm,n,hn=>by
  grind [dG]
 | x::r,F,L,hh,hm,n,hn=>by
  simp only[dG] at hm;split at hm
  .rename_i y L1 ys L2 H h2;simp only[Ab,AL] at hm;rw[←hm.2] at hn;rcases Bg.1 hn with hn|hn
   .grind
   .exact aAE p (λz G=>hh z (by simp[G])) h2 n hn
  .cases hm
theorem aGO (U:Agr N h h') (hb:∀n b,¬N n->h n=some b->aD6 N b):∀(m:Nat) (c:Bool) (x:AV),Off N x->conv h m [] c x=conv h' m [] c x∧∀y L,conv h m [] c x=some (y,L)->∀n,n∈L->¬N n:=by
 intro m
 induction m with
 |zero=>intro c x _;exact⟨rfl,λy L h=>by simp[conv] at h⟩
 | succ m ih =>
  intro c x G
  have H:∀(c:Bool) (cs:List AV),eD N cs->dG (conv h m [] c) cs=dG (conv h' m [] c) cs∧∀ys L,dG (conv h m [] c) cs=some (ys,L)->∀n,n∈L->¬N n:=λc cs O =>
   ⟨aDB λx I=>(ih c x (O.mem x I)).1,λys L M=>aAE (λn=>¬N n) (λx I y L hc=>(ih c x (O.mem x I)).2 y L hc) M⟩
  cases x
  case junk=>exact⟨rfl,λy L h=>by simp only[conv] at h;split at h<;>simp at h;rw[h.2];simp⟩
  case v x=>exact⟨rfl,λy L h=>by simp only[conv,Ab,AL] at h;rw[←h.2];simp⟩
  case sl k l=>exact⟨rfl,λy L h=>by simp only[conv,Ab,AL] at h;rw[←h.2];simp⟩
  case ro c=>exact⟨rfl,λy L h=>by simp only[conv,Ab,AL] at h;rw[←h.2];simp⟩
  case loc n off len =>
   simp only[conv,lK];cases I:h n with
   |none=>rw[U.none G.loc I];exact⟨rfl,λy L h=>by simp at h⟩
   | some b =>
    obtain⟨b',J,e⟩:=U.some G.loc I;rw[J];cases b with
    | var c z =>
     grind [aCV]
    | arr k l z =>
     obtain⟨z',rfl⟩:=aAo e;refine⟨rfl,λy L h=>?_⟩;simp only[Ab,AL] at h;rw[←h.2];intro n' F;rw[Av.1 F];exact G.loc
  case ptr n e o =>
   simp only[conv,lK];cases I:h n with
   |none=>rw[U.none G.ptr I];exact⟨rfl,λy L h=>by simp at h⟩
   | some b =>
    obtain⟨b',J,Z⟩:=U.some G.ptr I;rw[J];have V:=hb n b G.ptr I;cases b with
    | var c z =>
     obtain⟨z',rfl⟩:=aCV Z;have Y:=H true c V;simp only[Y.1,Ck];intro y L h;cases M:dG (conv h' m [] true) c with
     |none=>rw[M] at h;simp at h
     | some q =>
      rw[M] at h;simp only[AU,Ab,AL] at h;rw[←h.2];intro n' F;rcases Am.1 F with rfl|F
      .exact G.ptr
      .grind
    | arr k l z =>
     obtain⟨z',rfl⟩:=aAo Z;refine⟨rfl,λy L h=>?_⟩;simp only[Ab,AL] at h;rw[←h.2];intro n' F;rw[Av.1 F];exact G.ptr
  all_goals
   rename_i cs;have Y:=H c cs (by first|exact G.fn|exact G.agg|exact G.tup);simp only[conv,Y.1,Ck];intro y L h;cases M:dG (conv h' m [] c) cs with
   |none=>rw[M] at h;simp at h
   | some q =>
    grind
mutual
theorem aKK (φ:Name->Option Name) (n:Name) (F:∀m,φ m≠some n):∀x:AV,(rn φ x).has n=false
 |.v _=>rfl
 |.sl _ _=>rfl
 |.ro _=>rfl
 |.junk=>rfl
 | .loc m off len=>by
  grind [rn,AV.has]
 | .ptr m e c=>by
  grind [rn,AV.has]
 |.fn f c=>by simp only[rn,AV.has];exact aA3 φ n F c
 |.agg c=>by simp only[rn,AV.has];exact aA3 φ n F c
 |.tup c=>by simp only[rn,AV.has];exact aA3 φ n F c
theorem aA3 (φ:Name->Option Name) (n:Name) (F:∀m,φ m≠some n):∀c:List AV,mD n (rnL φ c)=false
 | []=>rfl
 |x::r=>by simp only[rnL,mD,aKK φ n F x,aA3 φ n F r,Bool.or_self]
end
end
section
variable [Envs]
variable {P:Program}{C:Ctx}{a:Act}{w:World}{S:Nat->Prop}{ρ:Name->Option Nat}{κ:Name->Nat}
structure Dl where
 v:AV
 nb:List (Name×Blk)
 fz:Bool
 L:List Name
 nn:Name->Prop
def app (d:Option Nat) (δ:Dl) (σ:FSt):FSt:=
 ⟨upd σ.s d δ.v,λm=>(aB δ.nb m).or ((σ.h m).map λb=>if δ.fz=true∧m∈δ.L then frz b else b)⟩
def isV:AV->Bool
 |.v _=>true
 |_=>false
def okZ:AOp->Bool
 |.build z _=>z.all isV
 |.alloc z=>z.all isV
 |.bslice _ _ z _=>z.all isV
 |.mk _ _ z _=>z.all isV
 |_=>true
def rO:AOp->Bool
 |.call _ _ bor=>bor.isEmpty
 |.store .. | .append .. | .appendC .. | .bsliceC .. | .clr ..=>false
 |op=>okZ op
theorem aNw {p:Name->Prop}{z:List AV} (h:z.all isV=true):NmL p z:=by
 intro x F;have:=Az.1 h x F;cases x<;>simp[isV] at this;exact .v _ _
theorem aGX {N:Name->Prop}{z:List AV} (h:z.all isV=true):eD N z:=by
 grind [eD.of_mem,isV,Off.v,AV]
inductive Eff (P:Program) (d:Option Nat) (op:AOp) (σ:FSt):Dl->Prop
 | rd (v:AV) (h1:xG op=true) (h2:∀K:AV->Prop,K v->Vs.rd (evO σ.s) σ.h K op)
   (h3:∀p:Name->Prop,(∀o,o∈aN op->Nm p (evO σ.s o))->(∀n b,p n->σ.h n=some b->NmB p b)->Nm p v):Eff P d op σ ⟨v,[],false,[],λ_=>False⟩
 | al (d':Nat) (hd:d=some d') (v:AV) (b:Blk) (h1:∀K:AV->Blk->Prop,K v b->Vs.al (evO σ.s) σ.h (.t d' 0) K op) (hf:gY (.t d' 0) σ) (hn:b.has (.t d' 0)=false)
   (h2:∀N:Name->Prop,¬N (.t d' 0)->Off N v) (h3:∀N:Name->Prop,(∀o,o∈aN op->Off N (evO σ.s o))->aD6 N b):Eff P d op σ ⟨v,[(.t d' 0,b)],false,[],λn=>n=.t d' 0⟩
 | call (d':Nat) (hd:d=some d') (f:Operand) (args:List Operand) (hop:op=.call f args []) (g:FuncId) (caps:List AV) (hg:evO σ.s f=.fn g caps) (ys:List AV) (L:List Name)
   (hm:dG (conv σ.h 8 [] false) (args.map (evO σ.s)++caps)=some (ys,L)) (r:AV) (hout:List (Option Blk)) (fz:Bool) (hfn:Fn P g [] ys r hout)
   (hflat:fz=false->(L=[]∨(flat r=true∧∀b,some b∈hout->aAx b))) (hfr:∀j,j<hout.length->gY (.t d' j) σ) :
   Eff P d op σ ⟨rn (phi [] d' hout.length) r,tK (rnB (phi [] d' hout.length)) d' 0 0 hout,fz,L,λn=>∃j,j<hout.length∧n=.t d' j⟩
def Canon (σ:St):Prop:=(∀p,p∈σ.s->look σ.s p.1=p.2)∧∀p,p∈σ.h->aB σ.h p.1=some p.2
def aDP:List (Nat×AV)->List (Nat×AV)
 | []=>[]
 |(i,x)::r=>(i,x)::(aDP r).filter λp=>!decide (p.1=i)
def aDQ:List (Name×Blk)->List (Name×Blk)
 | []=>[]
 |(i,x)::r=>(i,x)::(aDQ r).filter λp=>!decide (p.1=i)
theorem uK (i:Nat):∀(s:List (Nat×AV)) (t:Nat),t≠i->look (s.filter λp=>!decide (p.1=i)) t=look s t
 | [],_,_=>rfl
 | (j,x)::r,t,ht=>by
  by_cases F:j=i
  .simp only[DF,F,decide_true,BV,AO,Bc,look,ht,uK i r t ht]
  .simp only[DF,F,decide_false,Cs,Bj,look,uK i r t ht]
theorem rX (i:Name):∀(s:List (Name×Blk)) (t:Name),t≠i->aB (s.filter λp=>!decide (p.1=i)) t=aB s t
 | [],_,_=>rfl
 | (j,x)::r,t,ht=>by
  by_cases F:j=i
  .simp only[DF,F,decide_true,BV,AO,Bc,aB,ht,rX i r t ht]
  .simp only[DF,F,decide_false,Cs,Bj,aB,rX i r t ht]
theorem aBZ:∀s:List (Nat×AV),look (aDP s)=look s∧∀p,p∈aDP s->look (aDP s) p.1=p.2
 | []=>⟨rfl,by simp[aDP]⟩
 | (i,x)::r=>by
  obtain⟨G,h2⟩:=aBZ r
  have e:look (aDP ((i,x)::r))=look ((i,x)::r):=by
   funext t
   simp only[aDP,look];split
   .rfl
   .rename_i H;rw[uK i _ _ H,G]
  refine⟨e,λp F=>?_⟩;simp only[aDP,Am,Dm,BB,BD] at F;rcases F with rfl|⟨F,hne⟩
  .simp[aDP,look]
  .simp only[aDP,look,hne,Bc];rw[uK i _ _ hne];exact h2 p F
theorem aB0:∀s:List (Name×Blk),aB (aDQ s)=aB s∧∀p,p∈aDQ s->aB (aDQ s) p.1=some p.2
 | []=>⟨rfl,by simp[aDQ]⟩
 | (i,x)::r=>by
  obtain⟨G,h2⟩:=aB0 r
  have e:aB (aDQ ((i,x)::r))=aB ((i,x)::r):=by
   funext t
   simp only[aDQ,aB];split
   .rfl
   .rename_i H;rw[rX i _ _ H,G]
  refine⟨e,λp F=>?_⟩;simp only[aDQ,Am,Dm,BB,BD] at F;rcases F with rfl|⟨F,hne⟩
  .simp[aDQ,aB]
  .simp only[aDQ,aB,hne,Bc];rw[rX i _ _ hne];exact h2 p F
def canon (σ:St):St:=⟨aDP σ.s,aDQ σ.h⟩
theorem nA (σ:St):(canon σ).f=σ.f:=by simp only[canon,St.f,(aBZ σ.s).1,(aB0 σ.h).1]
theorem aBy (σ:St):Canon (canon σ):=⟨(aBZ σ.s).2,(aB0 σ.h).2⟩
theorem aAp {n:Name}{σ:St} (G:Canon σ) (J:n.isT=true) (H:gY n σ.f):dA n σ=true:=by
 simp only[dA,Aw,Az,BB,BD];refine⟨⟨J,λp F=>?_⟩,λp F=>⟨?_,?_⟩⟩
 .rw[←G.1 p F];exact H.2.1 p.1
 .intro e;have I:=H.1.1;have h2:=G.2 p F;rw[e] at h2;simp only[St.f] at I;rw[I] at h2;cases h2
 .exact H.2.2 p.1 p.2 (G.2 p F)
theorem aAR {op:AOp} (h:xG op=true) {d:Option Nat}{σ:St}{K:St->Prop}:bP P d σ K op↔rd (evO (look σ.s)) (aB σ.h) (λv=>K ⟨put d v σ.s,σ.h⟩) op:=by
 grind [xG,AOp,bP]
theorem aHV {d:Option Nat}{σ:St}{v:AV}{F:Name->Prop}:(St.mk (put d v σ.s) σ.h).f=app d ⟨v,[],false,[],F⟩ σ.f:=by
 simp only[St.f,app,lI,aB,Dr,AO,false_and,Bc];congr 1
 funext m
 cases aB σ.h m<;>rfl
theorem aHW {d:Nat}{σ:St}{v:AV}{b:Blk}{n:Name}{G:Name->Prop}:(St.mk ((d,v)::σ.s) ((n,b)::σ.h)).f=app (some d) ⟨v,[(n,b)],false,[],G⟩ σ.f:=by
 simp only[St.f,app,AO,false_and,Bc];congr 1
 funext m
 simp only[aB];by_cases F:m=n
 .simp[F]
 .simp only[F,Bc,Dr];cases aB σ.h m<;>rfl
theorem aGW {d:Nat}{σ:St}{v:AV}{hout:List (Option Blk)}{fz:Bool}{L:List Name}{F:Name->Prop} :
  (St.mk ((d,v)::σ.s) (yA σ.h [] d hout fz L)).f=app (some d) ⟨v,tK (rnB (phi [] d hout.length)) d 0 0 hout,fz,L,F⟩ σ.f:=by
 simp only[St.f,app];congr 1
 funext m
 unfold yA;rw[aBn];simp only[Ai];congr 1;rw[aAH _ (λm b G h=>by simp[aGY,lK] at h)];cases aB σ.h m with
 |none=>rfl
 |some b=>simp[aGY,lK]
theorem aCq {d:Option Nat}{σ:St}{K:St->Prop}{op:AOp} (F:rO op=true) (U:xG op=true∨d.isSome=true) (G:bP P d σ K op) :
  ∃δ,Eff P d op σ.f δ∧∃σ':St,σ'.f=app d δ σ.f∧K σ':=by
 by_cases hr:xG op=true
 .rw[aAR hr] at G;obtain⟨x,J,h2,O⟩:=aDg G;refine⟨_,.rd x hr h2 (λp Z hb=>O p (λz ps e=>?_) Z hb),_,aHV,J⟩
  all_goals grind [aNw,rO,okZ]
 .have U:=U.resolve_left hr;obtain⟨d',rfl⟩:=AA.1 U
  have I:∀{op:AOp},rO op=true->al (evO (look σ.s)) (aB σ.h) (.t d' 0) (λv b=>(dA (.t d' 0) σ=true∧b.has (.t d' 0)=false)∧K ⟨(d',v)::σ.s,(.t d' 0,b)::σ.h⟩) op->
    ∃δ,Eff P (some d') op σ.f δ∧∃σ':St,σ'.f=app (some d') δ σ.f∧K σ':=by
   intro op F G;obtain⟨x,b,⟨⟨J,h2⟩,O⟩,h4,h5,h6⟩:=zS G;refine⟨_,.al d' rfl x b h4 (dS J) h2 h5 (λN Z=>h6 N (λz e=>?_) Z),_,aHW,O⟩;subst e;exact aGX (by simpa[rO,okZ] using F)
  cases op
  case box x=>exact I F G
  case alloc z=>exact I F G
  case bslice k m z ps=>exact I F G
  case mk k y z n=>exact I F G
  case call f args bor =>
   simp only[rO,List.isEmpty_iff] at F;subst F;simp only[bP,aDZ] at G;split at G
   .rename_i g caps hg;have hB:aGU σ.h (args.map (evO (look σ.s))) []=[]:=rfl;rw[hB] at G;split at G
    .rename_i ys L1 hin L2 J h2;simp only[rP,Ab,AL] at h2;obtain⟨rfl,rfl⟩:=h2;obtain⟨_,r,hout,fz,V,H,Y,hK⟩:=G;simp only[Be,Cc,Ai] at H Y hK
     have M:∀j,j<hout.length->gY (.t d' j) σ.f:=by
      grind [jB,dS]
     exact⟨_,.call d' rfl f args rfl g caps hg ys L1 J r hout fz V H M,_,aGW,hK⟩
    .exact G.elim
   .exact G.elim
  all_goals grind [rO,xG]
theorem yC {d:Option Nat}{σ:St}{op:AOp}{δ:Dl} (I:Canon σ) (M:Eff P d op σ.f δ):bP P d σ (fun σ'=>σ'.f=app d δ σ.f) op:=by
 cases M with
 | rd v h1 h2 h3 =>
  rw[aAR h1];exact h2 _ aHV
 | al d' hd v b h1 hf hn h2 h3 =>
  subst hd;have F:=aAp I rfl hf;have:=h1 (λv b=>(dA (.t d' 0) σ=true∧b.has (.t d' 0)=false)∧(St.mk ((d',v)::σ.s) ((.t d' 0,b)::σ.h)).f=app (some d') ⟨v,[(.t d' 0,b)],false,[],λn=>n=.t d' 0⟩ σ.f) ⟨⟨F,hn⟩,aHW⟩
  cases op<;>first
   |exact this.elim
   | (simp only[bP]
      exact h1 _ ⟨⟨F,hn⟩,aHW⟩)
 | call d' hd f args hop g caps hg ys L hm r hout fz hfn hflat hfr =>
  subst hd;subst hop;simp only[bP,aDZ];have G:evO (look σ.s) f=.fn g caps:=hg;have H:dG (conv (aB σ.h) 8 [] false) (args.map (evO (look σ.s))++caps)=some (ys,L):=hm;have J:aGU σ.h (args.map (evO (look σ.s))) []=[]:=rfl;rw[G,J];simp only[H,rP];refine⟨rfl,r,hout,fz,hfn,by simpa using hflat,?_,?_⟩
  .simp only[jB,Az,Co];intro j O;simp only[Cc,aAp I rfl (hfr j O),Bool.or_true]
  .simp only[Be,Cc,Ai];exact aGW
end
section
variable [Envs]
variable {P:Program}{C:Ctx}{a:Act}{w:World}{S:Nat->Prop}{ρ:Name->Option Nat}{κ:Name->Nat}
structure WF (σ:FSt):Prop where
 s:∀t,Nm (λ_=>True) (σ.s t)
 h:∀n b,σ.h n=some b->NmB (λ_=>True) b
theorem aNL {x:AV}{v:Value} (h:RC S w x v):Nm (λ_=>False) x:=by
 have F:∀(c:List AV),(∀j,j<c.length->Nm (λ_=>False) (c.getD j .junk))->∀y,y∈c->Nm (λ_=>False) y:=by
  intro c G y J;obtain⟨j,H,rfl⟩:=BZ.1 J;have:=G j H;simpa[List.getD,H] using this
 induction h with
 |v x=>exact .v _ _
 | sl k l base cap x off xs hb G ho hr hk hcap ih =>
  refine .sl _ _ _ λr I y J=>?_;obtain⟨i,hi,rfl⟩:=BZ.1 I;have e:l.getD i []=l[i]:=by simp[List.getD,hi]
  refine F _ (λj H=>?_) y J
  all_goals grind
 |ro c x off xs hx G ho hr ih=>exact .ro _ _ (F c ih)
 |fn f c vs hl hr ih=>exact .fn _ _ _ (F c ih)
 |agg c vs hl hr ih=>exact .agg _ _ (F c ih)
 |tup c vs hl hr ih=>exact .tup _ _ (F c ih)
theorem aNH {h:Name->Option Blk}{x:AV}{v:Value} (G:RV S w ρ κ h x v):Nm (λ_=>True) x:=by
 have F:∀(c:List AV),(∀j,j<c.length->Nm (λ_=>True) (c.getD j .junk))->∀y,y∈c->Nm (λ_=>True) y:=by
  intro c I y J;obtain⟨j,H,rfl⟩:=BZ.1 J;have:=I j H;simpa[List.getD,H] using this
 induction G with
 |junk v=>exact .junk _
 |clo G=>exact(aNL G).mono λ_ h=>h.elim
 |loc n off len v hv=>exact .loc _ _ _ _ trivial
 |ptr n e c v hv=>exact .ptr _ _ _ _ trivial
 |fn f c vs hl hr ih=>exact .fn _ _ _ (F c ih)
 |agg c vs hl hr ih=>exact .agg _ _ (F c ih)
 |tup c vs hl hr ih=>exact .tup _ _ (F c ih)
theorem OK.wf {σ:FSt} (F:OK C σ a w S ρ κ):WF σ:=by
 refine⟨λt=>aNH (F.slots t),λn b J=>?_⟩;have G:=F.hok.blk n b J;cases b with
 | var c z =>
  obtain⟨x,cs,T,fr,_,_,_,_,_,_,_,I⟩:=G;intro y M
  all_goals grind [List.mem_iff_getElem.1,aNH]
 | arr k l z =>
  obtain⟨O,⟨_,rfl⟩|⟨x,cs,T,fr,_,_,_,_,_,_,_,I⟩⟩:=G
  .intro r H;cases H
  .intro r H y M
   all_goals grind [List.mem_iff_getElem.1,aNL]
theorem Nm.and {p q:Name->Prop}{x:AV} (F:Nm p x) (G:Off (λn=>¬q n) x):Nm (λn=>p n∧q n) x:=by
 induction F with
 |junk=>exact .junk _
 |v=>exact .v _ _
 |sl _ k l hl _=>exact .sl _ k l hl
 |ro _ c hc _=>exact .ro _ c hc
 |loc _ n off len hn=>exact .loc _ n off len ⟨hn,Dy.1 G.loc⟩
 |ptr _ n e c hn=>exact .ptr _ n e c ⟨hn,Dy.1 G.ptr⟩
 |fn _ f c hc ih=>exact .fn _ f c λx F=>ih x F (G.fn.mem x F)
 |agg _ c hc ih=>exact .agg _ c λx F=>ih x F (G.agg.mem x F)
 |tup _ c hc ih=>exact .tup _ c λx F=>ih x F (G.tup.mem x F)
theorem aD6.mem {N:Name->Prop}{c:List AV}{z:Bool} (G:aD6 N (.var c z)):eD N c:=λn F=>G n F
theorem NmB.and {p q:Name->Prop}{b:Blk} (G:NmB p b) (H:aD6 (λn=>¬q n) b):NmB (λn=>p n∧q n) b:=by
 cases b with
 |var c z=>exact λx F=>(G x F).and (H.mem.mem x F)
 |arr k l z=>exact G
theorem NmB.frz {p:Name->Prop}{b F:Blk} (G:frz F=frz b) (H:NmB p b):NmB p F:=by
 grind [Vs.frz,NmB,Blk]
theorem Eff.move {d:Option Nat}{op:AOp}{σ σ':FSt}{δ:Dl}{N:Name->Prop} (he:Eff P d op σ δ) (V:rO op=true)
  (I:∀o,o∈aN op->evO σ.s o=evO σ'.s o∧Off N (evO σ.s o)) (M:Agr N σ.h σ'.h) (Y:∀n b,¬N n->σ.h n=some b->aD6 N b)
  (Z:∀n,δ.nn n->gY n σ'):Eff P d op σ' δ:=by
 cases he with
 | rd v h1 h2 h3 =>
  refine .rd v h1 (λK O=>aOb M I (h2 K O)) λp hp hh=>?_;have e:(λn=>¬¬N n)=N:=funext λn=>propext Dy;have:=h3 (λn=>p n∧¬N n) (λo F=>?_) (λn b J H=>?_)
  .exact this.mono λn h=>h.1
  .obtain⟨e1,e2⟩:=I o F;refine Nm.and ?_ (by rw[e];exact e2);rw[e1];exact hp o F
  .obtain⟨b',h4,h5⟩:=M.some J.2 H;refine NmB.and (NmB.frz h5.symm (hh n b' J.1 h4)) (by rw[e];exact Y n b J.2 H)
 | al d' hd v b h1 hf' J h2 h3 =>
  refine .al d' hd v b (λK O=>aOZ M ?_ ?_ ?_ I (h1 K O)) (Z _ rfl) J h2 λN' U=>h3 N' λo F=>by rw[(I o F).1];exact U o F
  all_goals grind [aGX,rO,okZ]
 | call d' hd f args hop g caps hg ys L F r hout fz hfn hflat hfr =>
  subst hop;have⟨ef,of⟩:=I f (by simp[aN]);rw[hg] at of;have G:args.map (evO σ.s)=args.map (evO σ'.s):=List.map_congr_left λo F=>(I o (by simp[aN,F])).1;refine .call d' hd f args rfl g caps (by rw[←ef];exact hg) ys L ?_ r hout fz hfn hflat λj hj=>?_
  .rw[←G,←aDB (f:=conv σ.h 8 [] false) λx H=>?_]
   .exact F
   .refine(aGO M Y 8 false x ?_).1;rcases Bg.1 H with H|H
    .grind [aN]
    .exact of.fn.mem x H
  .exact Z _ ⟨j,hj,rfl⟩
theorem Eff.new {d:Option Nat}{op:AOp}{σ:FSt}{δ:Dl} (H:Eff P d op σ δ):(∀n,δ.nn n->∃d' j,d=some d'∧n=.t d' j∧gY n σ)∧∀n b,aB δ.nb n=some b->δ.nn n:=by
 cases H with
 |rd v h1 h2 h3=>exact⟨λn G=>G.elim,λn b F=>by simp[aB] at F⟩
 | al d' hd v b h1 hf' G h2 h3 =>
  grind [aB]
 | call d' hd f args hop g caps hg ys L hm r hout fz hfn hflat hfr =>
  refine⟨λn ⟨j,hj,e⟩=>⟨d',j,hd,e,by rw[e];exact hfr j hj⟩,λn b F=>?_⟩;rw[aAI] at F;cases n with
  |b j=>simp[yR] at F
  | t d'' j =>
   grind [yR]
theorem aMw {N:Name->Prop}{φ:Name->Option Name} (G:∀n m,N n->φ m≠some n) (b:Blk):aD6 N (rnB φ b):=by
 cases b with
 |var c z=>exact λn F=>aA3 φ n (λm=>G n m F) c
 |arr k l z=>exact λn F=>rfl
theorem aAg {g:Blk->Blk}{d nB:Nat}:∀{l:List (Option Blk)}{i:Nat}{n:Name}{b:Blk},(n,b)∈tK g d nB i l->∃F,b=g F
 | [],_,_,_,h=>by simp[tK] at h
 |none::r,i,n,b,h=>aAg (l:=r) (i:=i+1) (by simpa[tK] using h)
 | some x::r,i,n,b,h=>by
  simp only[tK] at h;split at h
  .rcases Am.1 h with h|h
   .grind
   .exact aAg h
  .exact aAg h
theorem Eff.off {d:Option Nat}{op:AOp}{σ:FSt}{δ:Dl}{N:Name->Prop} (he:Eff P d op σ δ) (hN:∀n,δ.nn n->¬N n) (O:∀d' j,d=some d'->¬N (.t d' j)) (U:WF σ)
  (M:∀o,o∈aN op->Off N (evO σ.s o)) (I:∀n b,¬N n->σ.h n=some b->aD6 N b) :
  Off N δ.v∧(∀n b,aB δ.nb n=some b->aD6 N b)∧∀n,n∈δ.L->¬N n:=by
 have H:∀o,Nm (λ_=>True) (evO σ.s o):=by
  intro o;cases o with
  |tmp t=>exact U.s t
  | const v =>
   simp only[evO]
   cases v<;>first
    |exact .v _ _
    | (simp only[AV.ofValue]
       refine .agg _ _ λx F=>?_;obtain⟨y,_,rfl⟩:=Bq.1 F;exact .v _ _)
  |global g=>exact .junk _
  |func f=>exact .fn _ _ _ (by simp)
 cases he with
 | rd v h1 h2 h3 =>
  refine⟨?_,λn b I=>by simp[aB] at I,by simp⟩;have:=h3 (λn=>¬N n) (λo J=>(H o).of_off (M o J)) λn b G F=>?_
  .exact this.off λn G=>G
  .have e:(λn=>¬¬N n)=N:=funext λn=>propext Dy;have:=NmB.and (q:=λn=>¬N n) (U.h n b F) (by rw[e];exact I n b G F)
   all_goals grind
 | al d' hd v b h1 hf' G h2 h3 =>
  grind [aB]
 | call d' hd f args hop g caps hg ys L J r hout fz hfn hflat hfr =>
  subst hop
  have V:∀n m,N n->phi [] d' hout.length m≠some n:=by
   grind [phi,Name]
  refine⟨λn G=>aKK _ n (λm=>V n m G) r,λn b F=>?_,λn G=>?_⟩
  .obtain⟨Z,rfl⟩:=aAg (wH _ _ _ F);exact aMw V Z
  .have of:=M f (by simp[aN]);rw[hg] at of;refine aAE (λn=>¬N n) (λx F y Y hc=>?_) J n G;refine(aGO (h':=σ.h) (λ_ _=>rfl) I 8 false x ?_).2 y Y hc;rcases Bg.1 F with F|F
   .grind [aN]
   .exact of.fn.mem x F
theorem aAy (d:Option Nat) (δ:Dl) (σ:FSt) (n:Name):(app d δ σ).h n=(aB δ.nb n).or ((σ.h n).map λb=>if δ.fz=true∧n∈δ.L then frz b else b):=rfl
theorem aOF (b:Blk) (p:Prop) [Decidable p]:frz (if p then frz b else b)=frz b:=by
 split
 .cases b<;>rfl
 .rfl
theorem aI4 {d:Option Nat}{δ:Dl}{σ:FSt} (F:∀n b,aB δ.nb n=some b->δ.nn n):Agr δ.nn σ.h (app d δ σ).h:=by
 intro n h;rw[aAy];cases hx:aB δ.nb n with
 |some b=>exact absurd (F n b hx) h
 | none =>
  rw[Dr];cases σ.h n with
  |none=>rfl
  |some b=>simp only[AU,aOF]
theorem rQ {d:Option Nat}{δ:Dl}{σ:FSt}{t:Nat} (h:d≠some t):(app d δ σ).s t=σ.s t:=by
 cases d with
 |none=>rfl
 | some d =>
  grind [app,upd]
theorem rF {d:Nat}{δ:Dl}{σ:FSt}:(app (some d) δ σ).s d=δ.v:=by simp[app,upd]
theorem aCX {d:Option Nat}{δ:Dl}{σ:FSt}{o:Operand} (h:∀t,d=some t->o≠.tmp t):evO (app d δ σ).s o=evO σ.s o:=by
 grind [evO,rQ,Operand]
theorem gY.off {n:Name}{σ:FSt} (h:gY n σ) (o:Operand):(evO σ.s o).has n=false:=by
 cases o with
 |tmp t=>exact h.2.1 t
 | const v =>
  simp only[evO]
  cases v<;>first
   |rfl
   | (simp only[AV.ofValue,AV.has]
      have:eD (λm=>m=n) (List.map (λx=>AV.v x) (Array.toList ‹_›)):=eD.of_mem λx F=>by
        grind [Off.v]
      exact this n rfl)
 |global g=>rfl
 |func f=>rfl
theorem aHA (b:Blk) (p:Prop) [Decidable p] (n:Name):(if p then frz b else b).has n=b.has n:=by
 grind [aNi,Blk,frz]
theorem aLP {M J:Option Nat}{x y:AOp}{σ:FSt}{G I:Dl} (hx:Eff P M x σ G) (hy:Eff P J y (app M G σ) I) (hs:WF σ) (fx:rO x=true) (fy:rO y=true)
  (a1:∀t,M=some t->∀o,o∈aN y->o≠.tmp t) (a2:∀t,J=some t->∀o,o∈aN x->o≠.tmp t) (a3:∀t,M=some t->J≠some t)
  (j1:∀t,M=some t->σ.s t=.junk) (j2:∀t,J=some t->σ.s t=.junk) :
  Eff P J y σ I∧Eff P M x (app J I σ) G∧app M G (app J I σ)=app J I (app M G σ):=by
 obtain⟨nx,bx⟩:=hx.new;obtain⟨ny,Z⟩:=hy.new
 have U:∀n,G.nn n->¬I.nn n:=by
  grind
 have sx:∀o,Off G.nn (evO σ.s o):=λo n H=>by obtain⟨_,_,_,_,O⟩:=nx n H;exact O.off o
 have ha:∀n b,σ.h n=some b->aD6 G.nn b:=λn b F m hm=>by obtain⟨_,_,_,_,O⟩:=nx m hm;exact O.2.2 n b F
 have hd:∀n,G.nn n->σ.h n=none:=λn H=>by obtain⟨_,_,_,_,O⟩:=nx n H;exact O.1.1
 have hg:=aI4 (d:=M) (σ:=σ) bx
 have V:∀n,I.nn n->gY n σ:=by
  intro n H;obtain⟨d2,i2,e2,rfl,O⟩:=ny n H;have hp:¬G.nn (.t d2 i2):=λh=>U _ h H;refine⟨⟨?_,O.1.2⟩,λt=>?_,λm b F=>?_⟩
  .have:=O.1.1;rw[aAy] at this;cases hσ:σ.h (.t d2 i2) with
   |none=>rfl
   |some b=>rw[hσ] at this;simp at this
  .by_cases Y:M=some t
   .rw[j1 t Y];rfl
   .have:=O.2.1 t
    rwa [rQ Y] at this
  .have h1:¬G.nn m:=λh=>by rw[hd m h] at F;cases F
   have h2:aB G.nb m=none:=by
    cases h:aB G.nb m with
    |none=>rfl
    |some b=>exact absurd (bx m b h) h1
   have:=O.2.2 m (if G.fz=true∧m∈G.L then frz b else b) (by rw[aAy,h2,F];rfl)
   rwa [aHA] at this
 have he:Eff P J y σ I:=by
  refine hy.move (N:=G.nn) fy (λo ho=>?_) hg.symm (λn b H F=>?_) V
  .have e:=aCX (δ:=G) (σ:=σ) (λt Y=>a1 t Y o ho);exact⟨e,by rw[e];exact sx o⟩
  .rw[aAy] at F
   have h2:aB G.nb n=none:=by
    cases h:aB G.nb n with
    |none=>rfl
    |some b=>exact absurd (bx n b h) H
   rw[h2,Dr] at F;cases hσ:σ.h n with
   |none=>rw[hσ] at F;cases F
   | some b0 =>
    rw[hσ] at F;obtain rfl:=Ay F;intro m hm;rw[aHA];exact ha n b0 hσ m hm
 obtain ⟨ov,ob,oL⟩:=he.off (N:=G.nn) (λn H h=>U n h H) (λd' j hc h=>by
   obtain⟨d1,i1,e1,e2,_⟩:=nx _ h;simp only[Name.t.injEq] at e2;exact a3 d1 e1 (by rw[hc,e2.1])) hs (λo _=>sx o) (λn b _ F=>ha n b F)
 have hj:=aI4 (d:=J) (σ:=σ) Z;have sy:∀o,Off I.nn (evO σ.s o):=λo n H=>(V n H).off o
 have hl:Eff P M x (app J I σ) G:=by
  refine hx.move (N:=I.nn) fx (λo ho=>⟨(aCX (δ:=I) (σ:=σ) (λt Y=>a2 t Y o ho)).symm,sy o⟩) hj (λn b _ F m hm=>(V m hm).2.2 n b F) λn H=>?_;obtain⟨d1,i1,e1,rfl,O⟩:=nx n H;have hk:=U _ H;refine⟨⟨?_,O.1.2⟩,λt=>?_,λm b F=>?_⟩
  .rw[aAy,O.1.1];cases h:aB I.nb (.t d1 i1) with
   |none=>rfl
   |some b=>exact absurd (Z _ b h) hk
  .by_cases Y:J=some t
   .subst Y;rw[rF];exact ov _ H
   .rw[rQ Y];exact O.2.1 t
  .rw[aAy] at F;cases h:aB I.nb m with
   | some b' =>
    rw[h] at F;obtain rfl:=Ay F;exact ob m _ h _ H
   | none =>
    rw[h,Dr] at F;cases hσ:σ.h m with
    |none=>rw[hσ] at F;cases F
    | some b0 =>
     rw[hσ] at F;obtain rfl:=Ay F;rw[aHA];exact ha m b0 hσ _ H
 refine⟨he,hl,?_⟩
 obtain ⟨_,_,hq⟩:=hx.off (N:=I.nn) (λn H=>U n H) (λd' j hc h=>by
   obtain⟨d1,i1,e1,e2,_⟩:=ny _ h;simp only[Name.t.injEq] at e2;exact a3 d' hc (by rw[e1,e2.1])) hs (λo _=>sy o) (λn b _ F m hm=>(V m hm).2.2 n b F)
 have e1:(app M G (app J I σ)).s=(app J I (app M G σ)).s:=by
  funext t
  by_cases h1:M=some t
  .grind [rF,rQ]
  .by_cases h2:J=some t
   all_goals grind [rQ,rF]
 have e2:(app M G (app J I σ)).h=(app J I (app M G σ)).h:=by
  funext n
  simp only[aAy];cases h1:aB G.nb n with
  | some b1 =>
   have H:=bx n b1 h1
   have h2:aB I.nb n=none:=by
    cases h:aB I.nb n with
    |none=>rfl
    |some b=>exact absurd (Z n b h) (U n H)
   all_goals grind
  | none =>
   cases h2:aB I.nb n with
   | some b2 =>
    grind
   | none =>
    simp only[Dr];cases σ.h n with
    |none=>rfl
    | some b =>
     grind
 all_goals grind [app]
end
section
variable [Envs]
variable {P:Program}{C:Ctx}{a:Act}{w:World}{S:Nat->Prop}{ρ:Name->Option Nat}{κ:Name->Nat}
theorem aIZ {b c:Bool} (h:b≠c):b = !c:=by cases b<;>cases c<;>simp at h<;>rfl
def eY (o:aM):Bool:=rO o.op&&(xG o.op||o.dst.isSome)
def aIa:AOp:=.mv (.const (.tuple #[]))
def aDo (b:Bool) (o:aM):AOp:=if b then o.op else aIa
def EffS (P:Program) (b:Bool) (o:aM) (σ:FSt) (δ:Dl):Prop:=Eff P o.dst (aDo b o) σ δ
def runs (o:aM) (σ:FSt) (b:Bool):Prop:=
 match o.guard with
 |none=>b=true
 |some (g,want)=>(∃c,σ.s g=.v (.bool c)∧b=(c==want))∨((∃cs,σ.s g=.v (.tuple cs))∧b=false)
def zT (P:Program) (o:aM) (σ:FSt) (δ:Dl):Prop:=∃b,runs o σ b∧EffS P b o σ δ
def aDI (d:Option Nat) (σ σ':St):Prop:=∀t,d≠some t->look σ.s t=.junk->look σ'.s t=.junk
def vcE (P:Program) (K:FSt->Prop):List aM->FSt->Prop
 | [],σ=>K σ
 | o::r,σ=>if eY o=true then ∃δ,zT P o σ δ∧vcE P K r (app o.dst δ σ)
  else ∃σl:St,σl.f=σ∧vc P (fun σ'=>vcE P K r σ'.f∧aDI o.dst σl σ') [o] σl
theorem vM (d:Option Nat) (x:AV) (σ:St) (h:List (Name×Blk)):aDI d σ ⟨put d x σ.s,h⟩:=by
 intro t G F;show look (put d x σ.s) t=_
 rw[lI];cases d with
 |none=>exact F
 | some d =>
  grind [upd]
theorem aG6 {d:Option Nat}{σ:St}{K:St->Prop}{op:AOp} (F:bP P d σ K op):bP P d σ (fun σ'=>K σ'∧aDI d σ σ') op:=by
 by_cases V:xG op=true
 .grind [aAR,vM]
 .have G:∀{op:AOp}{d':Nat},al (evO (look σ.s)) (aB σ.h) (.t d' 0) (λv b=>(dA (.t d' 0) σ=true∧b.has (.t d' 0)=false)∧K ⟨(d',v)::σ.s,(.t d' 0,b)::σ.h⟩) op->
    al (evO (look σ.s)) (aB σ.h) (.t d' 0) (λv b=>(dA (.t d' 0) σ=true∧b.has (.t d' 0)=false)∧K ⟨(d',v)::σ.s,(.t d' 0,b)::σ.h⟩∧aDI (some d') σ ⟨(d',v)::σ.s,(.t d' 0,b)::σ.h⟩) op:=by
   intro op d' F;obtain⟨x,b,⟨H,I⟩,J,_⟩:=zS F;exact J _ ⟨H,I,vM (some d') _ _ _⟩
  cases op
  case box x=>cases d with
   |none=>exact F
   |some d=>exact G (op:=.box x) (d':=d) F
  case alloc z=>cases d with
   |none=>exact F
   |some d=>exact G (op:=.alloc z) (d':=d) F
  case bslice k m z ps=>cases d with
   |none=>exact F
   |some d=>exact G (op:=.bslice k m z ps) (d':=d) F
  case mk k y z n=>cases d with
   |none=>exact F
   |some d=>exact G (op:=.mk k y z n) (d':=d) F
  case call f args bor =>
   simp only[bP,aDZ] at F⊢;split at F
   .split at F
    .obtain⟨H,r,hout,fz,h2,I,J,U⟩:=F;exact⟨H,r,hout,fz,h2,I,J,U,vM _ _ _ _⟩
    .exact F
   .exact F
  all_goals try grind [bP,aDI,vM]
  case append k y A X =>
   cases d with
   |none=>exact F
   | some d =>
    simp only[bP] at F⊢;split at F
    .rename_i on l O _ _;refine⟨F.1,F.2,λt Y M=>?_⟩
     have e:look ((d,AV.loc (.t d 0) 0 (l.length+O.length))::(aS on σ).s) t=look (aS on σ).s t:=by
      grind [look]
     show look ((d,AV.loc (.t d 0) 0 (l.length+O.length))::(aS on σ).s) t=_
     rw[e];cases on with
     |none=>exact M
     | some n =>
      simp only[aS,iR];rw[oK (scr n) (by simp[scr,AV.has]),M];simp[scr,AV.has]
    .exact F
  case appendC k y A X =>
   cases d with
   |none=>exact F
   | some d =>
    simp only[bP] at F⊢;split at F
    .rename_i on l O _ _;refine⟨F.1,F.2,λt Y M=>?_⟩
     have e:look ((d,AV.sl k (l++O))::(aS on σ).s) t=look (aS on σ).s t:=by
      grind [look]
     show look ((d,AV.sl k (l++O))::(aS on σ).s) t=_
     rw[e];cases on with
     |none=>exact M
     | some n =>
      simp only[aS,iR];rw[oK (scr n) (by simp[scr,AV.has]),M];simp[scr,AV.has]
    .exact F
  case bsliceC k m z ps=>cases d with
   |none=>exact F
   | some d =>
    simp only[bP] at F⊢;obtain⟨x,b,⟨H,rows,h2,I,J⟩,U,_⟩:=zS (op:=.bslice k m z ps) F;exact U _ ⟨H,rows,h2,I,J,vM (some d) _ _ _⟩
  all_goals simp[xG] at V
theorem aC5 {o:aM}{σ:St}{K:St->Prop} (F:vc P K [o] σ):vc P (fun σ'=>K σ'∧aDI o.dst σ σ') [o] σ:=by
 simp only[vc] at F⊢
 all_goals grind [aG6,l8,vM,St]
theorem aG5 {d:Option Nat}{σ:St}{K H:St->Prop} (O:∀σ,K σ->H σ) {op:AOp} (F:bP P d σ K op):bP P d σ H op:=by
 by_cases V:xG op=true
 .grind [aAR,aDg]
 .have G:∀{op:AOp}{d':Nat},al (evO (look σ.s)) (aB σ.h) (.t d' 0) (λv b=>(dA (.t d' 0) σ=true∧b.has (.t d' 0)=false)∧K ⟨(d',v)::σ.s,(.t d' 0,b)::σ.h⟩) op->
    al (evO (look σ.s)) (aB σ.h) (.t d' 0) (λv b=>(dA (.t d' 0) σ=true∧b.has (.t d' 0)=false)∧H ⟨(d',v)::σ.s,(.t d' 0,b)::σ.h⟩) op:=by
   intro op d' F;obtain⟨x,b,⟨I,J⟩,M,_⟩:=zS F;exact M _ ⟨I,O _ J⟩
  cases op
  case box x=>cases d with
   |none=>exact F
   |some d=>exact G (op:=.box x) (d':=d) F
  case alloc z=>cases d with
   |none=>exact F
   |some d=>exact G (op:=.alloc z) (d':=d) F
  case bslice k m z ps=>cases d with
   |none=>exact F
   |some d=>exact G (op:=.bslice k m z ps) (d':=d) F
  case mk k y z n=>cases d with
   |none=>exact F
   |some d=>exact G (op:=.mk k y z n) (d':=d) F
  case call f args bor =>
   simp only[bP,aDZ] at F⊢;split at F
   .split at F
    .obtain⟨I,r,hout,fz,h2,J,M,U⟩:=F;exact⟨I,r,hout,fz,h2,J,M,O _ U⟩
    .exact F
   .exact F
  all_goals try grind [bP]
  case append k y A X =>
   cases d with
   |none=>exact F
   | some d =>
    grind [bP]
  case appendC k y A X =>
   cases d with
   |none=>exact F
   | some d =>
    grind [bP]
  case bsliceC k m z ps=>cases d with
   |none=>exact F
   | some d =>
    grind [bP,zS]
  all_goals simp[xG] at V
theorem aC4 {o:aM}{σ:St}{K F:St->Prop} (H:∀σ,K σ->F σ) (G:vc P K [o] σ):vc P F [o] σ:=by
 simp only[vc] at G⊢;split at G
 all_goals grind [aG5,l8]
theorem aMm {o:aM}{r:List aM}{σ:St}{K:St->Prop}:vc P K (o::r) σ↔vc P (vc P K r) [o] σ:=Iff.rfl
theorem aKi {K:St->Prop}:∀(ops:List aM) (σ:St),vc P K ops σ->vcE P (λf=>∃σ':St,σ'.f=f∧K σ') ops σ.f
 | [],σ,hv=>⟨σ,rfl,hv⟩
 | o::r,σ,hv=>by
  have V:=aKi (K:=K) r;simp only[vcE];split
  .rename_i O;simp only[eY,Aw,Ct] at O
   have run:bP P o.dst σ (vc P K r) o.op->∃δ,Eff P o.dst o.op σ.f δ∧vcE P (λf=>∃σ':St,σ'.f=f∧K σ') r (app o.dst δ σ.f):=λU=>by
    obtain⟨δ,F,σ',h2,M⟩:=aCq O.1 O.2 U;exact⟨δ,F,by rw[←h2];exact V σ' M⟩
   have skip:vc P K r ⟨put o.dst (.v (.tuple #[])) σ.s,σ.h⟩->∃δ,Eff P o.dst aIa σ.f δ∧vcE P (λf=>∃σ':St,σ'.f=f∧K σ') r (app o.dst δ σ.f):=λU=>by
    obtain⟨δ,F,σ',h2,M⟩:=aCq (P:=P) (d:=o.dst) (σ:=σ) (K:=vc P K r) (op:=aIa) rfl (.inl rfl) U;exact⟨δ,F,by rw[←h2];exact V σ' M⟩
   simp only[vc] at hv;split at hv
   .rename_i I;obtain⟨δ,F,h2⟩:=run hv;exact⟨δ,⟨true,by simp only[runs,I],F⟩,h2⟩
   .rename_i g H I;split at hv
    .rename_i b J;by_cases G:b=H
     .obtain⟨δ,F,h2⟩:=run ((l8.1 hv).1 G);exact⟨δ,⟨true,by simp only[runs,I];exact .inl ⟨b,J,by simp[G]⟩,F⟩,h2⟩
     .have Y:b = !H:=aIZ G;obtain⟨δ,F,h2⟩:=skip ((l8.1 hv).2 Y);exact⟨δ,⟨false,by simp only[runs,I];exact .inl ⟨b,J,by simp[G]⟩,F⟩,h2⟩
    .rename_i cs J;obtain⟨δ,F,h2⟩:=skip hv;exact⟨δ,⟨false,by unfold runs;rw[I];exact .inr ⟨⟨cs,J⟩,rfl⟩,F⟩,h2⟩
    .exact hv.elim
  .refine⟨σ,rfl,aC4 (fun σ' h=>⟨V σ' h.1,h.2⟩) (aC5 (aMm.1 hv))⟩
theorem aKj {o:aM}{σ:St}{δ:Dl} (H:Canon σ) (M:zT P o σ.f δ):vc P (fun σ'=>σ'.f=app o.dst δ σ.f) [o] σ:=by
 obtain⟨b,F,h2⟩:=M
 have skip:b=false->(⟨put o.dst (.v (.tuple #[])) σ.s,σ.h⟩:St).f=app o.dst δ σ.f:=by
  rintro rfl;exact yC H h2
 simp only[vc];unfold runs at F;split
 .rename_i G;rw[G] at F;simp only at F;subst F;exact yC H h2
 .rename_i g I G;rw[G] at F;rcases F with⟨c,e,rfl⟩|⟨⟨cs,e⟩,J⟩
  .simp only[show look σ.s g=_ from e]
   all_goals grind [l8.2,aDo,EffS,yC]
  .simp only[show look σ.s g=_ from e];exact skip J
theorem aIm {ops:Array Oper}{Q:Exit->Act->World->Prop}{K:St->Prop}{i:Nat}{o:Oper}{ao:aM} (ho:ops[i]? = some o) (hc:nZ P C.nt ops o=some ao.bare) {σ:St} (I:vc P K [ao] σ) (F:OK C σ.f a w S ρ κ) :
  wpOp P ops Q i (dV C K) a w:=by
 obtain⟨h1,h2,M,h4⟩:=iQ hc;have go:bP P ao.dst σ K ao.op->o.wp P a w (dV C K) Q:=λU=>wZ (P:=P) h1 F M (by rw[h2];exact U);unfold wpOp;rw[ho];simp only[vc] at I;rcases h4 with⟨J,Y⟩|⟨j,G,t,J,Y,Z⟩
 .grind [Region.wanted]
 .rw[Y] at I;simp only at I;split at I
  .rename_i b O;have V:=zW F J Z O;simp only[V];by_cases H:b=G
   .simp only[H,beq_self_eq_true,Bj];exact .inl (go ((l8.1 I).1 H))
   .have:(b==G)=false:=by simpa using H
    simp only[this,AO,Bc];have hn:b = !G:=aIZ H;refine⟨_,S,ρ,κ,(l8.1 I).2 hn,?_⟩;have:=F.put (x:=.v undef) (v:=undef) (.clo (.v _)) M
    all_goals grind [St.f,lI,undef]
  .rename_i cs O;have V:=zV F J Z O;simp only[V,AO,Bc];refine⟨_,S,ρ,κ,I,?_⟩;have:=F.put (x:=.v undef) (v:=undef) (.clo (.v _)) M
   all_goals grind [St.f,lI,undef]
  .exact I.elim
theorem aH1 {ops:Array Oper}{K:Act->World->Prop}{i:Nat} (h:wpOp P ops (λ_ _ _=>False) i K a w):∃G w',K G w':=by
 unfold wpOp at h;split at h
 .exact⟨_,_,h⟩
 .split at h
  .rcases h with h|⟨_,_,_,h⟩
   .rename_i o _ _;unfold Oper.wp at h;generalize(execOp a.eval o).run P w=r at h;cases r with
    | ok n w' =>
     cases n<;>simp only[Oper.upon] at h
     case enter f args =>
      obtain⟨e,F,fr,h,_⟩:=h [];cases e with
      |returned v=>exact⟨_,_,h⟩
      |panicked ch=>exact h.elim
      |outgrown=>obtain⟨_,_,h⟩:=h;exact h.elim
     case row row args =>
      obtain⟨v,F,h,_⟩:=h (Frame.enter P 0 #[] .normal) [];exact⟨_,_,h⟩
     all_goals exact⟨_,_,h⟩
    |halt x w'=>cases x<;>simp only[Oper.upon] at h
   .exact h.elim
  .exact⟨_,_,h⟩
end
section
variable [Envs]
variable {P:Program}{C:Ctx}{a:Act}{w:World}{S:Nat->Prop}{ρ:Name->Option Nat}{κ:Name->Nat}
def tmpsOf:List Operand->List Nat
 | []=>[]
 |.tmp t::r=>t::tmpsOf r
 |_::r=>tmpsOf r
theorem wX:∀{l:List Operand}{t:Nat},t∉tmpsOf l->∀o,o∈l->o≠.tmp t
 | [],_,_,o,ho=>by cases ho
 | x::r,t,h,o,ho=>by
  rcases Am.1 ho with rfl|ho
  .rintro rfl;simp[tmpsOf] at h
  .refine wX (l:=r) (λh'=>h ?_) o ho;cases x<;>simp[tmpsOf,h']
def o9 (y:aM) (t:Nat):Bool:=(tmpsOf (aN y.op)).contains t||(match y.guard with|some (g,_)=>g==t|none=>false)
def lW (x y:aM):Bool:=
 (match x.dst with|some d=>!o9 y d&&!(y.dst==some d)|none=>true)&&(match y.dst with|some d=>!o9 x d|none=>true)
theorem aFQ {x:aM}{d:Option Nat}{δ:Dl}{σ:FSt}{b:Bool} (h:∀t,d=some t->∀g w,x.guard=some (g,w)->g≠t):runs x (app d δ σ) b↔runs x σ b:=by
 unfold runs;split
 .exact Iff.rfl
 .rename_i g F G;rw[rQ λe=>h g e g F G rfl]
theorem aJV {x y:aM}{σ:FSt}{M O:Dl} (Y:zT P x σ M) (Z:zT P y (app x.dst M σ) O) (hs:WF σ) (fx:eY x=true) (fy:eY y=true) (H:lW x y=true)
  (j1:∀t,x.dst=some t->σ.s t=.junk) (j2:∀t,y.dst=some t->σ.s t=.junk) :
  zT P y σ O∧zT P x (app y.dst O σ) M∧app x.dst M (app y.dst O σ)=app y.dst O (app x.dst M σ):=by
 simp only[lW,Aw] at H
 have U:∀t,x.dst=some t->o9 y t=false∧y.dst≠some t:=λt G=>by
  have:=H.1;rw[G] at this;simpa using this
 have b0:∀t,y.dst=some t->o9 x t=false:=λt G=>by
  have:=H.2;rw[G] at this;simpa using this
 have F:∀{z:aM}{t:Nat},o9 z t=false->(∀o,o∈aN z.op->o≠.tmp t)∧∀g w,z.guard=some (g,w)->g≠t:=by
  intro z t h;simp only[o9,Bool.or_eq_false_iff] at h;refine⟨wX (by simpa using h.1),λg w hg=>?_⟩;have:=h.2;rw[hg] at this;simpa using this
 obtain⟨bx,rx,Y⟩:=Y;obtain⟨I,ry,Z⟩:=Z;rw[aFQ λt G=>(F (U t G).1).2] at ry;have ha:∀δ,runs x (app y.dst δ σ) bx:=fun δ=>(aFQ λt G=>(F (b0 t G)).2).2 rx;simp only[eY,Aw] at fx fy
 have J:∀(b:Bool) (z:aM),rO z.op=true->rO (aDo b z)=true:=by
  intro b z h;cases b
  .rfl
  .exact h
 have ops:∀(b:Bool) (z:aM) (t:Nat),(∀o,o∈aN z.op->o≠.tmp t)->∀o,o∈aN (aDo b z)->o≠.tmp t:=by
  intro b z t h o V;cases b
  .simp only[aDo,aIa,aN,AO,Bc,Av] at V;subst V;simp
  .exact h o V
 obtain⟨h1,h2,h3⟩:=aLP (x:=aDo bx x) (y:=aDo I y) Y Z hs (J _ _ fx.1) (J _ _ fy.1) (λt G=>ops _ _ t (F (U t G).1).1) (λt G=>ops _ _ t (F (b0 t G)).1) (λt G=>(U t G).2) j1 j2;exact⟨⟨I,ry,h1⟩,⟨bx,ha _,h2⟩,h3⟩
def atL (aops:List aM) (r:List Nat):List aM:=r.filterMap λi=>aops[i]?
def Real (C:Ctx) (σ:FSt):Prop:=∃(σl:St) (a:Act) (w:World) (S:Nat->Prop) (ρ:Name->Option Nat) (κ:Name->Nat),σl.f=σ∧OK C σl.f a w S ρ κ
structure Pair (x y:aM):Prop where
 fx:eY x=true
 fy:eY y=true
 ap:lW x y=true
theorem aF2 {ops:Array Oper}{i:Nat}{o:Oper}{ao:aM}{σ:FSt}{δ:Dl} (O:ops[i]? = some o) (J:nZ P C.nt ops o=some ao.bare) (U:Real C σ) (M:zT P ao σ δ):Real C (app ao.dst δ σ):=by
 obtain⟨H,a,w,S,ρ,κ,rfl,F⟩:=U;have V:=aKj (P:=P) (o:=ao) (σ:=canon H) (δ:=δ) (aBy H) (by rw[nA];exact M);obtain⟨I,w',σ',S',ρ',κ',G,h2⟩:=aH1 (aIm (Q:=λ_ _ _=>False) O J V (by rw[nA];exact F));rw[nA] at G;exact⟨σ',I,w',S',ρ',κ',G,h2⟩
/-! ## a value that is copied, and a write behind it -/
def aFA:AOp->Option (Operand×Option Nat)
 |.mv o=>some (o,none)
 |.extract o i=>some (o,some i)
 |_=>none
def aA7:AOp->Bool
 |.mv _=>true
 |.extract _ _=>true
 |.bin _ _ _=>true
 |.conv _ _=>true
 |_=>false
def aJO:AOp->Prop
 |.loadV _ _ _=>True
 |.fieldV _ _=>True
 |_=>False
structure aG0 (x y:aM):Prop where
 fx:eY x=true
 fy:eY y=false
 g:y.guard=none
 ap:lW x y=true
 k:(∃k A X,y.op=.store k A X∧aA7 x.op=true)∨∃k b A X o,(y.op=.append k b A X∨y.op=.appendC k b A X)∧(x.op=.mv o∨aJO x.op)
theorem aGB {d:Option Nat}{op:AOp}{o:Operand}{oi:Option Nat}{σ σ':FSt}{δ:Dl} (F:aFA op=some (o,oi)) (M:Eff P d op σ δ) (e:evO σ'.s o=evO σ.s o):Eff P d op σ' δ∧δ.nb=[]∧δ.fz=false:=by
 cases M with
 | rd v h1 h2 h3 =>
  refine⟨?_,rfl,rfl⟩;cases op<;>simp only[aFA,Ab,AL] at F<;>try(cases F;done)
  case mv x =>
   obtain⟨rfl,rfl⟩:=F;have G:=h2 (λu=>u=v) rfl;simp only[rd] at G;refine .rd v rfl (λK H=>?_) λp I _=>?_
   .simp only[rd];rw[e,G];exact H
   .have:=I x (by simp[aN]);rwa [e,G] at this
  case extract x i =>
   obtain⟨rfl,rfl⟩:=F;have G:=h2 (λu=>u=v) rfl;simp only[rd] at G;split at G
   .rename_i c J;refine .rd v rfl (λK H=>?_) λp I _=>?_
    .simp only[rd];rw[e,J];exact⟨G.1,by rw[G.2];exact H⟩
    .have:=I x (by simp[aN]);rw[e,J] at this;rw[←G.2];exact Nm.getD this.aCU _
   .exact G.elim
 | al d' hd v b h1 hf hn h2 h3 =>
  exfalso;have:=h1 (λ_ _=>True) trivial;cases op<;>simp only[aFA] at F<;>first|(cases F;done)|exact this.elim
 | call d' hd f args hop' g caps hg ys L hm r hout fz hfn hflat hfr =>
  subst hop';simp[aFA] at F
theorem aLQ {d:Option Nat}{op:AOp}{σ σ':FSt}{δ:Dl} (F:aA7 op=true) (J:Eff P d op σ δ) (e:∀o,o∈aN op->evO σ'.s o=evO σ.s o):Eff P d op σ' δ∧δ.nb=[]∧δ.fz=false:=by
 cases J with
 | rd v h1 h2 h3 =>
  refine⟨?_,rfl,rfl⟩;cases op<;>simp only[aA7] at F<;>try(cases F;done)
  case mv x =>
   exact(aGB (o:=x) (oi:=none) rfl (.rd v h1 h2 h3) (e x (by simp[aN]))).1
  case extract x i =>
   exact(aGB (o:=x) (oi:=some i) rfl (.rd v h1 h2 h3) (e x (by simp[aN]))).1
  case bin b x y =>
   have G:=h2 (λu=>u=v) rfl
   have H:∃z,v=.v z:=by
    simp only[rd] at G;split at G
    .unfold aGV at G;cases b<;>exact⟨_,G.2.symm⟩
    .exact G.elim
   obtain⟨z,rfl⟩:=H;refine .rd _ rfl (λK I=>?_) λp _ _=>.v _ _;have:=h2 K I;simp only[rd] at this⊢;rw[e x (by simp[aN]),e y (by simp[aN])];exact this
  case conv k x =>
   have G:=h2 (λu=>u=v) rfl
   have H:∃z,v=.v z:=by
    simp only[rd] at G;split at G
    .exact⟨_,G.symm⟩
    .exact G.elim
   obtain⟨z,rfl⟩:=H;refine .rd _ rfl (λK I=>?_) λp _ _=>.v _ _;have:=h2 K I;simp only[rd] at this⊢;rw[e x (by simp[aN])];exact this
 | al d' hd v b h1 hf hn h2 h3 =>
  exfalso;have:=h1 (λ_ _=>True) trivial;cases op<;>simp only[aA7] at F<;>first|(cases F;done)|exact this.elim
 | call d' hd f args hop' g caps hg ys L hm r hout fz hfn hflat hfr =>
  subst hop';simp[aA7] at F
theorem aDY {σ:St} (G:Canon σ) (on:Option Name):Canon (aS on σ):=by
 cases on with
 |none=>exact G
 | some n =>
  refine⟨λp F=>?_,λp F=>?_⟩
  .simp only[aS,iR] at F⊢;obtain⟨q,H,rfl⟩:=Bq.1 F;simp only;rw[oK (scr n) (by simp[scr,AV.has]),G.1 q H]
  .simp only[aS,iR] at F⊢;obtain⟨q,H,rfl⟩:=Bq.1 F;obtain⟨I,h2⟩:=Dm.1 H;simp only[BB,BD] at h2;simp only;rw[uC,AC h2,G.2 q I];rfl
theorem eX {σ:St}{on:Option Name} (t:Nat):look (aS on σ).s t=match on with|some n=>scr n (look σ.s t)|none=>look σ.s t:=by
 cases on with
 |none=>rfl
 | some n =>
  simp only[aS,iR];rw[oK (scr n) (by simp[scr,AV.has])]
theorem eU {σ:St}{on:Option Name} (m:Name):aB (aS on σ).h m=match on with|some n=>if m=n then none else(aB σ.h m).map (aBI n)|none=>aB σ.h m:=by
 cases on with
 |none=>rfl
 | some n =>
  simp only[aS,iR];rw[uC]
theorem aJ9 {k:Nat}{h:Name->Option Blk}{x:AV}{on:Option Name}{l:List (List AV)} (F:aCv k h x=some (on,l)):∀n,on=some n->∃k l z,h n=some (.arr k l z):=by
 intro n G;subst G;unfold aCv at F;split at F
 .simp at F
 .split at F
  .rename_i I J z H;split at F
   .simp only[Ab,AL] at F;obtain⟨rfl,_⟩:=F;exact⟨_,_,_,H⟩
   .cases F
  .cases F
 .cases F
def fO:Option Name->AV->AV
 |some n,x=>scr n x
 |none,x=>x
theorem aKF (on:Option Name) (x:Value):fO on (.v x)=.v x:=by cases on<;>simp[fO,scr,AV.has]
theorem aBH (on:Option Name):fO on .junk=.junk:=by cases on<;>simp[fO,scr,AV.has]
theorem aAB {on:Option Name}:∀{l:List AV},l.all tF=true->l.map (fO on)=l
 | [],_=>rfl
 | x::r,h=>by
  simp only[BJ,Aw] at h;rw[Bt,aAB h.2];cases x<;>simp[tF] at h;rw[aKF]
theorem aCf {on:Option Name}:∀{l:List AV},(l.map (fO on)).all tF=true->l.map (fO on)=l
 | [],_=>rfl
 | x::r,h=>by
  simp only[Bt,BJ,Aw] at h;rw[Bt,aCf h.2];congr 1;cases on with
  |none=>rfl
  | some n =>
   simp only[fO,scr] at h⊢;split
   .rename_i hh;rw[AP hh] at h;simp[tF] at h
   .rfl
theorem aAJ {n:Name}:∀{l:List AV},l.all tF=true->mD n l=false
 | [],_=>rfl
 | x::r,h=>by
  simp only[BJ,Aw] at h;simp only[mD,aAJ h.2,Bool.or_false];cases x<;>simp[tF] at h;rfl
theorem aAX {on:Option Name}{m:Name}{e c:Nat} (h:∀n,on=some n->m≠n):fO on (.ptr m e c)=.ptr m e c:=by
 cases on with
 |none=>rfl
 |some n=>simp[fO,scr,AV.has,h n rfl]
theorem aAW {on:Option Name}{x:AV}{m:Name}{e c:Nat} (h:fO on x=.ptr m e c):x=.ptr m e c∧∀n,on=some n->m≠n:=by
 cases on with
 |none=>exact⟨h,λn h=>by cases h⟩
 | some n =>
  simp only[fO,scr] at h;split at h
  .cases h
  .rename_i hh;subst h;refine⟨rfl,λG F=>?_⟩;obtain rfl:=Ay F;simpa[AV.has] using hh
theorem aCI (f:AV->AV) (cs:List AV) (z:Bool) (e:Nat):(Blk.var (cs.map f) z).row e=((Blk.var cs z).row e).map f:=by cases e<;>rfl
theorem aE8 {on:Option Name}{g:Bool}{l:List AV} (h:(!g||l.all tF)=true):AV.mk g (l.map (fO on))=fO on (AV.mk g l):=by
 cases g with
 | false =>
  simp only[AV.mk,AO,Bc];cases l with
  |nil=>exact(aBH on).symm
  |cons x r=>rfl
 | true =>
  simp only[BV,Di] at h;simp only[AV.mk,Bj];rw[aAB h];cases on with
  |none=>rfl
  |some n=>simp[fO,scr,AV.has,aAJ h]
theorem aJF {d:Option Nat}{op:AOp}{σ τ:FSt}{δ:Dl}{on:Option Name} (hj:aJO op) (he:Eff P d op σ δ)
  (U:∀o,o∈aN op->evO τ.s o=fO on (evO σ.s o)) (hc:∀n,on=some n->∃k l z,σ.h n=some (.arr k l z))
  (hh:∀m c z,σ.h m=some (.var c z)->τ.h m=some (.var (c.map (fO on)) z)):Eff P d op τ ⟨fO on δ.v,[],false,[],λ_=>False⟩:=by
 have M:∀{m:Name}{c:List AV}{z:Bool},σ.h m=some (.var c z)->∀n,on=some n->m≠n:=by
  intro m c z hm n hn e;obtain⟨k,l,z',h⟩:=hc n hn;rw[←e,hm] at h;cases h
 cases op<;>simp only[aJO] at hj
 case loadV g k a =>
  cases he with
  | rd v h1 h2 h3 =>
   have F:=h2 (λu=>u=v) rfl;have I:=U a (by simp[aN]);simp only[rd] at F;split at F
   .rename_i m e c hx;split at F
    .rename_i cs z O;rw[hx,aAX (M O)] at I;have H:=hh m cs z O;obtain⟨⟨hl,V⟩,rfl⟩:=F
     have Y:((((Blk.var (cs.map (fO on)) z).row e).drop c).take k)=((((Blk.var cs z).row e).drop c).take k).map (fO on):=by
      rw[aCI,CG,CJ]
     have ep:((!g||(((((Blk.var cs z).row e).drop c).take k).map (fO on)).all tF)=true):=by
      cases g with
      |false=>rfl
      | true =>
       simp only[BV,Di] at V⊢;rw[aAB V];exact V
     refine .rd _ rfl (λK Z=>?_) λp J hq=>?_
     .simp only[rd,I,H];refine⟨⟨by rw[aCI,Bh];exact hl,by rw[Y];exact ep⟩,?_⟩;rw[Y,aE8 V];exact Z
     .have G:=J a (by simp[aN]);rw[I] at G;rw[←aE8 V,←Y];exact NmL.mk (NmL.take (NmL.drop ((hq m _ G.eH H).row e) _) _)
    .exact F.elim
   .exact F.elim
  |al d' hd v b h1 hf hn h2 h3=>exact(h1 (λ_ _=>True) trivial).elim
  |call d' hd f args hop' g caps hg ys L hm r hout fz hfn hflat hfr=>cases hop'
 case fieldV off x =>
  cases he with
  | rd v h1 h2 h3 =>
   have F:=h2 (λu=>u=v) rfl;have I:=U x (by simp[aN]);simp only[rd] at F;split at F
   .rename_i m e c hx;split at F
    .rename_i cs z O;rw[hx,aAX (M O)] at I;have H:=hh m cs z O;subst F;simp only[aAX (M O)];refine .rd _ rfl (λK Z=>?_) λp J hq=>?_
     .simp only[rd,I,H];exact Z
     .have G:=J x (by simp[aN]);rw[I] at G;exact .ptr _ _ _ _ G.eH
    .exact F.elim
   .exact F.elim
  |al d' hd v b h1 hf hn h2 h3=>exact(h1 (λ_ _=>True) trivial).elim
  |call d' hd f args hop' g caps hg ys L hm r hout fz hfn hflat hfr=>cases hop'
theorem aJW {d:Option Nat}{op:AOp}{σ:FSt}{δ:Dl} (F:xG op=true) (G:Eff P d op σ δ):δ.nb=[]∧δ.fz=false:=by
 cases G with
 |rd v h1 h2 h3=>exact⟨rfl,rfl⟩
 | al d' hd v b h1 hf hn h2 h3 =>
  exfalso;have:=h1 (λ_ _=>True) trivial;cases op<;>simp only[xG] at F<;>first|(cases F;done)|exact this.elim
 |call d' hd f args hop' g caps hg ys L hm r hout fz hfn hflat hfr=>subst hop';cases F
theorem aJT {x y:aM}{σ:FSt}{F I:St}{Y:Dl}{K:FSt->Prop} (hx:zT P x σ Y) (hp:aG0 x y) (h0:F.f=σ) (j1:∀t,x.dst=some t->σ.s t=.junk) (hl:I.f=app x.dst Y σ)
  (H:vc P (fun σ'=>K σ'.f) [y] I):∃σ2:St,σ2.f=σ∧vc P (fun σ'=>∃δ',zT P x σ'.f δ'∧K (app x.dst δ' σ'.f)) [y] σ2:=by
 subst h0;have hu:=hp.ap;simp only[lW,Aw] at hu
 have a0:∀t,x.dst=some t->o9 y t=false∧y.dst≠some t:=λt V=>by
  have:=hu.1;rw[V] at this;simpa using this
 have b0:∀t,y.dst=some t->o9 x t=false:=λt V=>by
  have:=hu.2;rw[V] at this;simpa using this
 have hk:∀{z:aM}{t:Nat},o9 z t=false->(∀o,o∈aN z.op->o≠.tmp t)∧∀g w,z.guard=some (g,w)->g≠t:=by
  intro z t h;simp only[o9,Bool.or_eq_false_iff] at h;refine⟨wX (by simpa using h.1),λg w hg=>?_⟩;have:=h.2;rw[hg] at this;simpa using this
 obtain⟨b,rx,he⟩:=hx
 have qd:xG (aDo b x)=true:=by
  cases b
  .rfl
  .rcases hp.k with⟨_,_,_,_,h⟩|⟨_,_,_,_,o,_,h⟩
   .show xG x.op=true
    revert h;cases x.op<;>intro h<;>first|rfl|simp[aA7] at h
   .show xG x.op=true
    rcases h with h|h
    .rw[h];rfl
    .revert h;cases x.op<;>intro h<;>first|rfl|exact h.elim
 have ho:Y.nb=[]∧Y.fz=false:=aJW qd he
 have hh:∀(d:Option Nat) (τ:FSt) (δ:Dl),δ.nb=[]->δ.fz=false->(app d δ τ).h=τ.h:=by
  intro d τ δ e1 e2
  funext n
  rw[aAy,e1,e2];simp[aB]
 have es:∀t,look I.s t=(app x.dst Y F.f).s t:=λt=>congrFun (Cm FSt.s hl) t
 have eh:aB I.h=aB F.h:=by
  have:=Cm FSt.h hl;rw[hh _ _ _ ho.1 ho.2] at this;exact this
 have ev:∀z,z∈aN y.op->evO (look I.s) z=evO (look F.s) z:=by
  intro z hz
  have e:evO (look I.s) z=evO (app x.dst Y F.f).s z:=by
   cases z<;>first|rfl|exact es _
  rw[e];exact aCX λt V=>(hk (a0 t V).1).1 z hz
 simp only[vc,hp.g] at H;rcases hp.k with⟨k,A,X,hy,qm⟩|⟨k,qp,A,X,o',hy,J⟩
 .have qc:aA7 (aDo b x)=true:=by
   cases b
   .rfl
   .exact qm
  rw[hy] at H ev;refine⟨F,rfl,?_⟩;simp only[vc,hp.g,hy];simp only[bP] at H⊢;refine⟨H.1,?_⟩;have H:=H.2;rw[ev A (by simp[aN]),ev X (by simp[aN]),eh] at H;split at H
  .rename_i n e c hA;split at H
   .rename_i U cs hb qq;refine⟨H.1,?_⟩;have hK:=H.2
    have hr:((⟨I.s,hset n (U.setRow e (lay (U.row e) c cs)) I.h⟩:St)).f=app x.dst Y (⟨F.s,hset n (U.setRow e (lay (U.row e) c cs)) F.h⟩:St).f:=by
     have e1:(⟨I.s,hset n (U.setRow e (lay (U.row e) c cs)) I.h⟩:St).f.s=(app x.dst Y (⟨F.s,hset n (U.setRow e (lay (U.row e) c cs)) F.h⟩:St).f).s:=funext λt=>es t
     have e2:(⟨I.s,hset n (U.setRow e (lay (U.row e) c cs)) I.h⟩:St).f.h=(app x.dst Y (⟨F.s,hset n (U.setRow e (lay (U.row e) c cs)) F.h⟩:St).f).h:=by
      rw[hh _ _ _ ho.1 ho.2];simp only[St.f,xL,eh]
     exact congr (Cm FSt.mk e1) e2
    refine⟨Y,⟨b,?_,?_⟩,by rw[←hr];exact hK⟩
    .unfold runs at rx⊢;exact rx
    .exact(aLQ (σ':=(⟨F.s,hset n (U.setRow e (lay (U.row e) c cs)) F.h⟩:St).f) qc he λ_ _=>rfl).1
   .exact H.elim
  .exact H.elim
 .have hq:∀(d:Nat),y.dst=some d->∀(v0:AV) (B:List (Name×Blk)->List (Name×Blk)) (on:Option Name),(∀h h',aB h=aB h'->aB (B h)=aB (B h'))->(∀h m,m≠.t d 0->aB (B h) m=aB h m)->aB (aS on I).h (.t d 0)=none->(∀n,on=some n->∃k l z,aB F.h n=some (.arr k l z))->
    K (⟨(d,v0)::(aS on I).s,B (aS on I).h⟩:St).f->∃δ',zT P x (⟨(d,v0)::(aS on (canon F)).s,B (aS on (canon F)).h⟩:St).f δ'∧K (app x.dst δ' (⟨(d,v0)::(aS on (canon F)).s,B (aS on (canon F)).h⟩:St).f):=by
   intro d hd v0 B on hB qf G ha hK;have O:∀t,look (canon F).s t=look F.s t:=λt=>congrFun (Cm FSt.s (nA F)) t;have Z:aB (canon F).h=aB F.h:=Cm FSt.h (nA F);have qh:∀t,x.dst=some t->d≠t:=λt V e=>(a0 t V).2 (by rw[hd,e])
   let τ:St:=⟨(d,v0)::(aS on (canon F)).s,B (aS on (canon F)).h⟩
   let v':AV:=match on with|some n=>scr n Y.v|none=>Y.v
   have hr:(⟨(d,v0)::(aS on I).s,B (aS on I).h⟩:St).f=app x.dst ⟨v',[],false,[],λ_=>False⟩ τ.f:=by
    have e1:(⟨(d,v0)::(aS on I).s,B (aS on I).h⟩:St).f.s=(app x.dst ⟨v',[],false,[],λ_=>False⟩ τ.f).s:=by
     funext t
     simp only[St.f,look,eX];by_cases V:x.dst=some t
     .have h2:=qh t V;rw[AC (λe=>h2 e.symm)];have e3:=es t;rw[V] at e3⊢;rw[rF] at e3;rw[rF,e3];cases on<;>rfl
     .rw[rQ V];have e3:=es t;rw[rQ V] at e3;simp only[τ,look,eX,O];rw[e3];rfl
    have e2:(⟨(d,v0)::(aS on I).s,B (aS on I).h⟩:St).f.h=(app x.dst ⟨v',[],false,[],λ_=>False⟩ τ.f).h:=by
     rw[hh _ _ _ rfl rfl];refine hB _ _ (funext λm=>?_);simp only[eU,eh,Z]
    exact congr (Cm FSt.mk e1) e2
   have hτ:∀z,z∈aN x.op->z≠.tmp d:=λz hz=>(hk (b0 d hd)).1 z hz;refine⟨⟨v',[],false,[],λ_=>False⟩,⟨b,?_,?_⟩,by show K (app x.dst _ τ.f);rw[←hr];exact hK⟩
   .unfold runs at rx⊢;split at rx
    .exact rx
    .rename_i g qe hg;have qa:=(hk (b0 d hd)).2 g qe hg;rcases rx with⟨c,hc,hw⟩|⟨⟨cs,hc⟩,hw⟩
     .refine .inl ⟨c,?_,hw⟩;simp only[St.f,look];rw[AC qa,eX,O];simp only[St.f] at hc;rw[hc];cases on<;>simp[scr,AV.has]
     .refine .inr ⟨⟨cs,?_⟩,hw⟩;simp only[St.f,look];rw[AC qa,eX,O];simp only[St.f] at hc;rw[hc];cases on<;>simp[scr,AV.has]
   .-- the copied value, behind the write
    have hj:(∃o2,aDo b x=.mv o2∧o2≠.tmp d)∨aJO (aDo b x):=by
     cases b
     .exact .inl ⟨_,rfl,by simp⟩
     .rcases J with J|J
      .exact .inl ⟨o',J,hτ o' (by rw[J];simp[aN])⟩
      .exact .inr J
    rcases hj with hj|hlv
    rotate_left
    .have qg:b=true:=by
      cases b
      .exact hlv.elim
      .rfl
     subst qg;have qb:aJO x.op:=hlv
     have h7:Eff P x.dst x.op τ.f ⟨fO on Y.v,[],false,[],λ_=>False⟩:=by
      refine aJF qb he (λz hz=>?_) (λn hn=>?_) (λm c z hm=>?_)
      .have qo:=hτ z hz;show evO (look τ.s) z=fO on (evO (look F.s) z)
       revert hz;cases hxe:x.op<;>intro hz<;>simp only[hxe,aJO] at qb
       all_goals
        cases z with
        | tmp t =>
         have h5:t≠d:=λe=>qo (by rw[e]);simp only[evO,τ,look];rw[AC h5,eX,O];cases on<;>rfl
        | const w =>
         simp only[evO];cases on with
         |none=>rfl
         | some n =>
          simp only[fO,scr];rw[AC];cases w<;>simp[AV.ofValue,AV.has];rename_i cs
          have:eD (λm=>m=n) (List.map (λx=>AV.v x) (Array.toList cs)):=eD.of_mem λx hx=>by
           obtain⟨y,_,rfl⟩:=Bq.1 hx;exact Off.v _
          exact this n rfl
        |global g=>simp only[evO];exact(aBH on).symm
        |func f=>simp only[evO];cases on<;>simp[fO,scr,AV.has,mD]
      .exact ha n hn
      .have qj:m≠.t d 0:=by
        rintro rfl;rw[eU,eh] at G;simp only[St.f] at hm;cases on with
        |none=>simp only at G;rw[hm] at G;cases G
        | some n =>
         obtain⟨k',l',z',hn⟩:=ha n rfl;simp only at G;split at G
         .rename_i e;rw[←e,hm] at hn;cases hn
         .rw[hm] at G;cases G
       show aB τ.h m=_
       simp only[τ];rw[qf _ _ qj,eU,Z];simp only[St.f] at hm;cases on with
       |none=>rw[show c.map (fO none)=c by rw[show fO none=id from rfl];simp];exact hm
       | some n =>
        obtain⟨k',l',z',hn⟩:=ha n rfl;have qi:m≠n:=λe=>by rw[←e,hm] at hn;cases hn
        simp only;rw[AC qi,hm];rfl
     have ev':v'=fO on Y.v:=by cases on<;>rfl
     rw[ev'];exact h7
    obtain⟨o2,hj,qk⟩:=hj;unfold EffS at he⊢;rw[hj] at he⊢;cases he with
    | rd v h1 h2 h3 =>
     have M:=h2 (λu=>u=v) rfl;simp only[rd] at M
     have h8:evO τ.f.s o2=v':=by
      show evO (look τ.s) o2=v'
      cases o2 with
      | tmp t =>
       have h5:t≠d:=λe=>qk (by rw[e]);simp only[evO,τ,look];rw[AC h5,eX,O];simp only[evO,St.f] at M;rw[M];cases on<;>rfl
      | const w =>
       simp only[evO] at M⊢;simp only[v'];rw[←M];cases on with
       |none=>rfl
       | some n =>
        simp only[scr];rw[AC];cases w<;>simp[AV.ofValue,AV.has];rename_i cs
        have:eD (λm=>m=n) (List.map (λx=>AV.v x) (Array.toList cs)):=eD.of_mem λx hx=>by
         obtain⟨y,_,rfl⟩:=Bq.1 hx;exact Off.v _
        exact this n rfl
      | global g =>
       simp only[evO] at M⊢;simp only[v'];rw[←M];cases on<;>simp[scr,AV.has]
      | func f =>
       simp only[evO] at M⊢;simp only[v'];rw[←M];cases on<;>simp[scr,AV.has,mD]
     refine .rd v' rfl (λK hK=>?_) λp ql _=>?_
     .simp only[rd];rw[h8];exact hK
     .have:=ql o2 (by simp[aN]);rwa [h8] at this
    |al d' hd' v b h1 hf hn h2 h3=>exact(h1 (λ_ _=>True) trivial).elim
    |call d' hd' f args hop' g caps hg ys L hm r hout fz G hflat h9=>cases hop'
  have O:∀t,look (canon F).s t=look F.s t:=λt=>congrFun (Cm FSt.s (nA F)) t;have Z:aB (canon F).h=aB F.h:=Cm FSt.h (nA F)
  have h6:∀z,evO (look (canon F).s) z=evO (look F.s) z:=by
   intro z;cases z<;>first|rfl|exact O _
  have hs:∀(d:Nat),y.dst=some d->∀(on:Option Name),dA (.t d 0) (aS on I)=true->dA (.t d 0) (aS on (canon F))=true:=by
   intro d hd on hf
   have h9:gY (.t d 0) (aS on (canon F)).f:=by
    have h1:=dS hf;refine⟨⟨?_,h1.1.2⟩,λt=>?_,λm U h4=>?_⟩
    .have:=h1.1.1;simp only[St.f,eU] at this⊢;rw[Z,←eh];exact this
    .have:=h1.2.1 t;simp only[St.f,eX] at this⊢;rw[O];by_cases V:x.dst=some t
     .have:=j1 t V;simp only[St.f] at this;rw[this];cases on with
      |none=>rfl
      |some n=>simp[scr,AV.has]
     .have e2:=es t;rw[rQ V] at e2;rw[e2] at this;exact this
    .refine h1.2.2 m U ?_;simp only[St.f,eU] at h4⊢;rw[Z,←eh] at h4;exact h4
   exact aAp (aDY (aBy F) on) rfl h9
  refine⟨canon F,nA F,?_⟩;rcases hy with hy|hy<;>rw[hy] at H ev
  all_goals
   cases hd:y.dst with
   |none=>rw[hd] at H;exact H.elim
   | some d =>
    rw[hd] at H;simp only[vc,hp.g,hy,hd];simp only[bP] at H⊢;rw[ev A (by simp[aN]),ev X (by simp[aN]),eh] at H;rw[h6 A,h6 X,Z];split at H
    .rename_i on l l' hA hX;obtain⟨⟨hf,qn⟩,hK⟩:=H;refine⟨⟨hs d hd on hf,qn⟩,?_⟩;have ha:=aJ9 hA;have G:=zJ hf
     first
      |exact hq d hd (.loc (.t d 0) 0 (l.length+l'.length)) (λh=>(.t d 0,.arr k (l++l') false)::h) on (λh h' e=>by funext m;simp only[aB,e]) (λh m hm=>by simp only[aB];rw[AC hm]) G ha hK
      |exact hq d hd (.sl k (l++l')) (λh=>h) on (λh h' e=>e) (λh m hm=>rfl) G ha hK
    .exact H.elim
theorem aL7 {ops:Array Oper}{K:FSt->Prop}{y:aM}:∀(F H:List aM) (σ:FSt),(∀x,x∈F->aG0 x y∧∃(i:Nat) (o:Oper),ops[i]? = some o∧nZ P C.nt ops o=some x.bare)->
  (F.Pairwise λx x'=>∀t,x'.dst=some t->x.dst≠some t)->Real C σ->(∀x,x∈F->∀t,x.dst=some t->σ.s t=.junk)->
  vcE P K (F++y::H) σ->vcE P K (y::(F++H)) σ
 | [],H,σ,_,_,_,_,hv=>hv
 | x::F,H,σ,hp,hd,hr,j1,hv=>by
  obtain⟨G,i,o,ho,hc⟩:=hp x (by simp);have J:=G.fx;have M:=G.fy;simp only[Ae,vcE,J,Bj] at hv;obtain⟨δx,O,h2⟩:=hv
  have:=aL7 F H (app x.dst δx σ) (λz I=>hp z (by simp[I])) hd.tail (aF2 ho hc hr O) (λz I t U=>by
    rw[rQ ((Df hd I) t U)];exact j1 z (by simp[I]) t U) h2
  simp only[vcE,M,AO,Bc] at this;obtain⟨σl,V,Y⟩:=this;obtain⟨σ0,a,w,S,ρ,κ,e,ha⟩:=hr;obtain⟨σ2,Z,h6⟩:=aJT (K:=λf=>vcE P K (F++H) f) O G e (j1 x (by simp)) V (aC4 (λ_ h=>h.1) Y);simp only[vcE,M,J,AO,Bc,Bj,Ae];refine⟨σ2,Z,aC5 (aC4 (fun σ' h=>?_) h6)⟩;exact h
def aCe:AOp->Bool
 |.mv _=>true
 |.bin _ _ _=>true
 |.slc _ _ _ _=>true
 |_=>false
structure aGZ (x y:aM):Prop where
 fx:eY x=false
 fy:eY y=true
 gx:x.guard=none
 gy:y.guard=none
 ap:lW x y=true
 kx:∃k b A X,x.op=.append k b A X∨x.op=.appendC k b A X
 ky:((∃k a,y.op=.loadV true k a)∨∃o a,y.op=.fieldV o a)∨aCe y.op=true
theorem aJD {d:Option Nat}{op:AOp}{σ τ:FSt}{δ:Dl}{on:Option Name} (hk:(∃k a,op=.loadV true k a)∨∃o a,op=.fieldV o a) (he:Eff P d op τ δ) {new:Name}
  (hc:∀o,o∈aN op->evO τ.s o=fO on (evO σ.s o)) (hj:∀o,o∈aN op->(evO τ.s o).has new=false)
  (hh:∀m c z,m≠new->(∀n,on=some n->m≠n)->τ.h m=some (.var c z)->∃O,σ.h m=some (.var O z)∧c=O.map (fO on)) :
  Eff P d op σ ⟨δ.v,[],false,[],λ_=>False⟩∧fO on δ.v=δ.v∧δ.v.has new=false∧δ.nb=[]∧δ.fz=false:=by
 rcases hk with⟨k,a,rfl⟩|⟨off,x,rfl⟩
 .cases he with
  | rd v h1 h2 h3 =>
   have F:=h2 (λu=>u=v) rfl;have Z:=hc a (by simp[aN]);have G:=hj a (by simp[aN]);simp only[rd] at F;split at F
   .rename_i m e c hx;rw[hx] at Z G;obtain⟨Y,J⟩:=aAW Z.symm;have M:m≠new:=by simpa[AV.has] using G
    split at F
    .rename_i cs z hb;obtain⟨O,I,rfl⟩:=hh m cs z M J hb;obtain⟨⟨hl,hp⟩,rfl⟩:=F
     have em:((((Blk.var (O.map (fO on)) z).row e).drop c).take k)=((((Blk.var O z).row e).drop c).take k).map (fO on):=by
      rw[aCI,CG,CJ]
     simp only[BV,Di] at hp;rw[em] at hp;have e2:=aCf hp;have V:((((Blk.var O z).row e).drop c).take k).all tF=true:=by rw[←e2];exact hp
     simp only[em,e2];refine⟨.rd _ rfl (λK hK=>?_) λp U hq=>?_,?_,?_,trivial,trivial⟩
     .simp only[rd,Y,I];refine⟨⟨by rw[aCI,Bh] at hl;exact hl,by simp only[BV,Di];exact V⟩,hK⟩
     .have H:=U a (by simp[aN]);rw[Y] at H;exact NmL.mk (NmL.take (NmL.drop ((hq m _ H.eH I).row e) _) _)
     .rw[←aE8 (g:=true) (by simpa using V),e2]
     .simp only[AV.mk,Bj,AV.has,aAJ V]
    .exact F.elim
   .exact F.elim
  |al d' hd v b h1 hf hn h2 h3=>exact(h1 (λ_ _=>True) trivial).elim
  |call d' hd f args hop' g caps hg ys L hm r hout fz hfn hflat hfr=>cases hop'
 .cases he with
  | rd v h1 h2 h3 =>
   have F:=h2 (λu=>u=v) rfl;have Z:=hc x (by simp[aN]);have G:=hj x (by simp[aN]);simp only[rd] at F;split at F
   .rename_i m e c hx;rw[hx] at Z G;obtain⟨Y,J⟩:=aAW Z.symm;have M:m≠new:=by simpa[AV.has] using G
    split at F
    .rename_i cs z hb;obtain⟨O,I,rfl⟩:=hh m cs z M J hb;subst F;refine⟨.rd _ rfl (λK hK=>?_) λp U hq=>?_,aAX J,by simp[AV.has,M],rfl,rfl⟩
     .simp only[rd,Y,I];exact hK
     .have H:=U x (by simp[aN]);rw[Y] at H;exact .ptr _ _ _ _ H.eH
    .exact F.elim
   .exact F.elim
  |al d' hd v b h1 hf hn h2 h3=>exact(h1 (λ_ _=>True) trivial).elim
  |call d' hd f args hop' g caps hg ys L hm r hout fz hfn hflat hfr=>cases hop'
theorem vB {on:Option Name}{x y:AV} (h:y=fO on x) (F:y≠.junk):x=y:=by
 cases on with
 |none=>exact h.symm
 | some n =>
  simp only[fO,scr] at h;split at h
  .exact absurd h F
  .exact h.symm
theorem aCH (on:Option Name) (k:Nat) (l:List (List AV)):fO on (.sl k l)=.sl k l:=by cases on<;>simp[fO,scr,AV.has]
theorem aAY {on:Option Name}{n:Name}{a b:Nat} (c d:Nat) (h:fO on (.loc n a b)=.loc n a b):fO on (.loc n c d)=.loc n c d:=by
 cases on with
 |none=>rfl
 | some m =>
  simp only[fO,scr,AV.has] at h⊢;by_cases F:n=m
  .simp[F] at h
  .simp[F]
theorem aJf {d:Option Nat}{op:AOp}{σ τ:FSt}{δ:Dl}{on:Option Name} (M:aCe op=true) (he:Eff P d op τ δ) {new:Name}
  (J:∀o,o∈aN op->evO τ.s o=fO on (evO σ.s o)) (hj:∀o,o∈aN op->(evO τ.s o).has new=false)
  (hh:∀m k l z,m≠new->τ.h m=some (.arr k l z)->σ.h m=some (.arr k l z)) :
  ∃v',Eff P d op σ ⟨v',[],false,[],λ_=>False⟩∧fO on v'=δ.v∧δ.v.has new=false∧δ.nb=[]∧δ.fz=false:=by
 cases he with
 | rd v G h2 h3 =>
  have F:=h2 (λu=>u=v) rfl
  have hs:rd (evO σ.s) σ.h (λu=>fO on u=v∧v.has new=false) op:=by
   cases op<;>simp only[aCe] at M<;>try(cases M;done)
   case mv a =>
    simp only[rd] at F⊢;have ha:=J a (by simp[aN]);have hn:=hj a (by simp[aN]);rw[F] at ha hn;exact⟨ha.symm,hn⟩
   case bin b x y =>
    simp only[rd] at F⊢;split at F
    .rename_i k a k' b' U hy;have ex:=vB (J x (by simp[aN])) (by rw[U];simp);have ey:=vB (J y (by simp[aN])) (by rw[hy];simp);rw[ex,ey,U,hy];simp only;unfold aGV at F⊢;cases b<;>exact⟨F.1,by rw[←F.2];exact⟨aKF _ _,rfl⟩⟩
    .exact F.elim
   case slc k x lo hi =>
    have Z:∀o:Option Operand,(∀z,o=some z->z∈aN (.slc k x lo hi))->o.map (evO τ.s)=none->o.map (evO σ.s)=none:=λo _ h=>by
     cases o with
     |none=>rfl
     |some z=>cases h
    have Y:∀(o:Option Operand) (w:Value),(∀z,o=some z->z∈aN (.slc k x lo hi))->o.map (evO τ.s)=some (.v w)->o.map (evO σ.s)=some (.v w):=λo w hm h=>by
     cases o with
     |none=>cases h
     | some z =>
      simp only[AU,Ab] at h⊢;have:=vB (J z (hm z rfl)) (by rw[h];simp);rw[this,h]
    have I:∀z,lo=some z->z∈aN (.slc k x lo hi):=λz hz=>by subst hz;simp[aN]
    have H:∀z,hi=some z->z∈aN (.slc k x lo hi):=λz hz=>by subst hz;simp[aN]
    simp only[rd] at F⊢;split at F
    .rename_i k' l U;have ex:=vB (J x (by simp[aN])) (by rw[U];simp);rw[ex,U];simp only;split at F
     .rename_i G h2;rw[Z lo I G,Z hi H h2];exact⟨F.1,by rw[←F.2];exact⟨aCH _ _ _,rfl⟩⟩
     .rename_i G h2;rw[Y lo _ I G,Z hi H h2];exact⟨F.1,by rw[←F.2];exact⟨aCH _ _ _,rfl⟩⟩
     .rename_i G h2;rw[Z lo I G,Y hi _ H h2];exact⟨F.1,by rw[←F.2];exact⟨aCH _ _ _,rfl⟩⟩
     .rename_i G h2;rw[Y lo _ I G,Y hi _ H h2];exact⟨F.1,by rw[←F.2];exact⟨aCH _ _ _,rfl⟩⟩
     .exact F.elim
    .rename_i n off len U;have hc:=J x (by simp[aN]);have ex:=vB hc (by rw[U];simp)
     have O:n≠new:=by
      have:=hj x (by simp[aN]);rw[U] at this;simpa[AV.has] using this
     have V:fO on (.loc n off len)=.loc n off len:=by
      rw[ex,U] at hc;exact hc.symm
     split at F
     .rename_i k' l z hb;rw[ex,U];simp only;rw[hh n k' l z O hb];simp only;split at F
      .rename_i G h2;rw[Z lo I G,Z hi H h2];exact⟨F.1,by rw[←F.2];exact⟨aAY _ _ V,by simp[AV.has,O]⟩⟩
      .rename_i G h2;rw[Y lo _ I G,Z hi H h2];exact⟨F.1,by rw[←F.2];exact⟨aAY _ _ V,by simp[AV.has,O]⟩⟩
      .rename_i G h2;rw[Z lo I G,Y hi _ H h2];exact⟨F.1,by rw[←F.2];exact⟨aAY _ _ V,by simp[AV.has,O]⟩⟩
      .rename_i G h2;rw[Y lo _ I G,Y hi _ H h2];exact⟨F.1,by rw[←F.2];exact⟨aAY _ _ V,by simp[AV.has,O]⟩⟩
      .exact F.elim
     .exact F.elim
    .exact F.elim
  obtain⟨u,⟨g1,g2⟩,g3,g4⟩:=aDg hs;exact⟨u,.rd u G g3 λp ho hb=>g4 p (λz ps e=>by subst e;simp[aCe] at M) ho hb,g1,g2,rfl,rfl⟩
 | al d' hd v b G hf hn h2 h3 =>
  exfalso;have:=G (λ_ _=>True) trivial;cases op<;>simp only[aCe] at M<;>first|(cases M;done)|exact this.elim
 |call d' hd f args hop' g caps hg ys L hm r hout fz hfn hflat hfr=>subst hop';simp[aCe] at M
theorem aJl {x y:aM}{F:St}{K:FSt->Prop} (hp:aGZ x y)
  (M:vc P (fun σ'=>∃δ,zT P y σ'.f δ∧K (app y.dst δ σ'.f)) [x] F):∃H,zT P y F.f H∧∃G:St,G.f=app y.dst H F.f∧vc P (fun σ'=>K σ'.f) [x] G:=by
 have hj:=hp.ap;simp only[lW,Aw] at hj
 have a0:∀t,x.dst=some t->o9 y t=false∧y.dst≠some t:=λt O=>by
  have:=hj.1;rw[O] at this;simpa using this
 have b0:∀t,y.dst=some t->o9 x t=false:=λt O=>by
  have:=hj.2;rw[O] at this;simpa using this
 have he:∀{z:aM}{t:Nat},o9 z t=false->∀o,o∈aN z.op->o≠.tmp t:=by
  intro z t h;simp only[o9,Bool.or_eq_false_iff] at h;exact wX (by simpa using h.1)
 simp only[vc,hp.gx] at M
 have hc:∀(d:Nat),x.dst=some d->∀(U:AV) (B:List (Name×Blk)->List (Name×Blk)) (on:Option Name),(∀h h',aB h=aB h'->aB (B h)=aB (B h'))->(∀h m,m≠.t d 0->aB (B h) m=aB h m)->
   dA (.t d 0) (aS on F)=true->(∃δ,zT P y (⟨(d,U)::(aS on F).s,B (aS on F).h⟩:St).f δ∧K (app y.dst δ (⟨(d,U)::(aS on F).s,B (aS on F).h⟩:St).f))->
   ∃ H,zT P y F.f H∧∃G:St,G.f=app y.dst H F.f∧(∀z,z∈aN x.op->evO (look G.s) z=evO (look F.s) z)∧aB G.h=aB F.h∧dA (.t d 0) (aS on G)=true∧
    K (⟨(d,U)::(aS on G).s,B (aS on G).h⟩:St).f:=by
  rintro d V U B on hB hr hf ⟨δ,⟨b,ry,ha⟩,hK⟩;have h4:y.dst≠some d:=(a0 d V).2;have hw:=he (a0 d V).1;have Y:=dS hf;have J:b=true:=by simpa[runs,hp.gy] using ry
  subst J;have ha:Eff P y.dst y.op (⟨(d,U)::(aS on F).s,B (aS on F).h⟩:St).f δ:=ha
  have hs:∀o,o∈aN y.op->evO (⟨(d,U)::(aS on F).s,B (aS on F).h⟩:St).f.s o=fO on (evO F.f.s o):=by
   intro z hz;have hn:=hw z hz;cases z with
   | tmp t =>
    have Z:t≠d:=λe=>hn (by rw[e]);simp only[evO,St.f,look];rw[AC Z,eX];cases on<;>rfl
   | const w =>
    simp only[evO];cases on with
    |none=>rfl
    | some n =>
     simp only[fO,scr];rw[AC];cases w<;>simp[AV.ofValue,AV.has];rename_i cs
     have:eD (λm=>m=n) (List.map (λx=>AV.v x) (Array.toList cs)):=eD.of_mem λx I=>by
      obtain⟨y,_,rfl⟩:=Bq.1 I;exact Off.v _
     exact this n rfl
   |global g=>simp only[evO];exact(aBH on).symm
   |func f=>simp only[evO];cases on<;>simp[fO,scr,AV.has,mD]
  have hu:∀o,o∈aN y.op->(evO (⟨(d,U)::(aS on F).s,B (aS on F).h⟩:St).f.s o).has (.t d 0)=false:=by
   intro z hz;have hn:=hw z hz;cases z with
   | tmp t =>
    have Z:t≠d:=λe=>hn (by rw[e]);simp only[evO,St.f,look];rw[AC Z];exact Y.2.1 t
   | const w =>
    simp only[evO];cases w<;>simp[AV.ofValue,AV.has];rename_i cs
    have:eD (λm=>m=.t d 0) (List.map (λx=>AV.v x) (Array.toList cs)):=eD.of_mem λx I=>by
     obtain⟨y,_,rfl⟩:=Bq.1 I;exact Off.v _
    exact this _ rfl
   |global g=>rfl
   |func f=>simp[evO,AV.has,mD]
  obtain ⟨v',e1,e2,e3,e4,e5⟩:∃v',Eff P y.dst y.op F.f ⟨v',[],false,[],λ_=>False⟩∧fO on v'=δ.v∧δ.v.has (.t d 0)=false∧δ.nb=[]∧δ.fz=false:=by
   rcases hp.ky with hky|hky
   rotate_left
   .exact aJf (σ:=F.f) (on:=on) (new:=.t d 0) hky ha hs hu (λm c l z hm J=>by
     simp only[St.f] at J⊢;rw[hr _ _ hm,eU] at J;cases on with
     |none=>exact J
     | some n =>
       simp only at J;split at J
       . cases J
       . obtain⟨b0,h1,h2⟩:=Cr.1 J
         cases b0 with
         |var c0 z0=>simp[aBI] at h2
         | arr k l z0 =>
           simp only[aBI] at h2;rw[h1,h2])
   obtain ⟨q1,q2,q3,q4,q5⟩:=aJD (σ:=F.f) (on:=on) (new:=.t d 0) hky ha hs hu (λm c z hm h0 J=>by
     simp only[St.f] at J⊢;rw[hr _ _ hm,eU] at J;cases on with
     |none=>exact⟨c,J,by rw[show fO none=id from rfl];simp⟩
     | some n =>
       simp only at J;rw[AC (h0 n rfl)] at J;obtain⟨b0,h1,h2⟩:=Cr.1 J;cases b0 with
       | var c0 z0 =>
         simp only[aBI,Blk.var.injEq] at h2;obtain⟨rfl,rfl⟩:=h2;exact⟨c0,h1,rfl⟩
       |arr k l z0=>simp[aBI] at h2)
   exact⟨δ.v,q1,q2,q3,q4,q5⟩
  let H:Dl:=⟨v',[],false,[],λ_=>False⟩
  let G:St:=canon ⟨put y.dst v' F.s,F.h⟩
  have ho:G.f=app y.dst H F.f:=by
   rw[nA];exact aHV
  have s3:∀t,look G.s t=(app y.dst H F.f).s t:=λt=>congrFun (Cm FSt.s ho) t
  have h3:aB G.h=aB F.h:=by
   have:=Cm FSt.h ho
   have e:(app y.dst H F.f).h=aB F.h:=by
    funext n;rw[aAy];simp[H,aB,St.f]
   exact this.trans e
  refine⟨H,⟨true,by simp[runs,hp.gy],e1⟩,G,ho,λz hz=>?_,h3,?_,?_⟩
  .have e:evO (look G.s) z=evO (app y.dst H F.f).s z:=by cases z<;>first|rfl|exact s3 _
   rw[e];exact aCX λt O=>he (b0 t O) z hz
  .refine aAp (aDY (aBy _) on) rfl ⟨⟨?_,Y.1.2⟩,λt=>?_,λm bl hk=>?_⟩
   .have:=Y.1.1;simp only[St.f,eU] at this⊢;rw[h3];exact this
   .have:=Y.2.1 t;simp only[St.f,eX] at this⊢;rw[s3];by_cases O:y.dst=some t
    .rw[O,rF];cases on with
     | none =>
      show AV.has (.t d 0) v'=false
      rw[show v'=δ.v from e2];exact e3
     | some n =>
      show AV.has (.t d 0) (scr n v')=false
      rw[show scr n v'=δ.v from e2];exact e3
    .rw[rQ O];exact this
   .refine Y.2.2 m bl ?_;simp only[St.f,eU] at hk⊢;rw[h3] at hk;exact hk
  .have hy:(⟨(d,U)::(aS on G).s,B (aS on G).h⟩:St).f=app y.dst δ (⟨(d,U)::(aS on F).s,B (aS on F).h⟩:St).f:=by
    have g1:(⟨(d,U)::(aS on G).s,B (aS on G).h⟩:St).f.s=(app y.dst δ (⟨(d,U)::(aS on F).s,B (aS on F).h⟩:St).f).s:=by
     funext t
     by_cases O:y.dst=some t
     .have Z:t≠d:=λe=>h4 (by rw[O,e]);rw[O,rF];simp only[St.f,look];rw[AC Z,eX,s3,O,rF];cases on with
      |none=>exact e2
      |some n=>exact e2
     .rw[rQ O];simp only[St.f,look,eX];rw[s3,rQ O];rfl
    have g2:(⟨(d,U)::(aS on G).s,B (aS on G).h⟩:St).f.h=(app y.dst δ (⟨(d,U)::(aS on F).s,B (aS on F).h⟩:St).f).h:=by
     have e:(app y.dst δ (⟨(d,U)::(aS on F).s,B (aS on F).h⟩:St).f).h=aB (B (aS on F).h):=by
      funext n;rw[aAy,e4,e5];simp[aB,St.f]
     rw[e];refine hB _ _ (funext λm=>?_);simp only[eU,h3]
    exact congr (Cm FSt.mk g1) g2
   rw[hy];exact hK
 obtain⟨k,hq,A,X,I⟩:=hp.kx
 have go:∀(d:Nat),x.dst=some d->(x.op=.append k hq A X∨x.op=.appendC k hq A X)->bP P x.dst F (fun σ'=>∃δ,zT P y σ'.f δ∧K (app y.dst δ σ'.f)) x.op->
   ∃H,zT P y F.f H∧∃G:St,G.f=app y.dst H F.f∧bP P x.dst G (fun σ'=>K σ'.f) x.op:=by
  intro d V I M;rcases I with I|I
  .rw[I,V] at M;simp only[bP] at M;split at M
   .rename_i on l l' hA hX;obtain⟨⟨hf,hl⟩,hK⟩:=M;have hg:=hc d V (.loc (.t d 0) 0 (l.length+l'.length)) (λh=>(.t d 0,.arr k (l++l') false)::h) on (λh h' e=>by funext m;simp only[aB,e]) (λh m hm=>by simp only[aB];rw[AC hm]) hf hK;obtain⟨H,g1,G,g2,g3,g4,g5,g6⟩:=hg;rw[I] at g3;refine⟨H,g1,G,g2,?_⟩;rw[I,V];simp only[bP];rw[g3 A (by simp[aN]),g3 X (by simp[aN]),g4,hA,hX];exact⟨⟨g5,hl⟩,g6⟩
   .exact M.elim
  .rw[I,V] at M;simp only[bP] at M;split at M
   .rename_i on l l' hA hX;obtain⟨⟨hf,hl⟩,hK⟩:=M;have hg:=hc d V (.sl k (l++l')) (λh=>h) on (λh h' e=>e) (λh m hm=>rfl) hf hK;obtain⟨H,g1,G,g2,g3,g4,g5,g6⟩:=hg;rw[I] at g3;refine⟨H,g1,G,g2,?_⟩;rw[I,V];simp only[bP];rw[g3 A (by simp[aN]),g3 X (by simp[aN]),g4,hA,hX];exact⟨⟨g5,hl⟩,g6⟩
   .exact M.elim
 cases V:x.dst with
 |none=>rcases I with I|I<;>(rw[I,V] at M;exact M.elim)
 | some d =>
  obtain⟨H,g1,G,g2,g3⟩:=go d V I M;refine⟨H,g1,G,g2,?_⟩;simp only[vc,hp.gx];exact g3
theorem aL9 {x:aM}{I:St}{K:St->Prop} (J:x.guard=none) (M:∃k b A X,x.op=.append k b A X∨x.op=.appendC k b A X) (F:vc P K [x] I) :
  ∃r,K r∧∀H:St->Prop,H r->vc P H [x] I:=by
 obtain⟨k,b,A,X,G⟩:=M;simp only[vc,J] at F⊢;cases hd:x.dst with
 |none=>rcases G with G|G<;>(rw[G,hd] at F;exact F.elim)
 | some d =>
  rcases G with G|G<;>rw[G,hd] at F
  all_goals
   simp only[bP,G] at F⊢;split at F
   .exact⟨_,F.2,λH h=>⟨F.1,h⟩⟩
   .exact F.elim
theorem aHT {ops:Array Oper}{K:FSt->Prop}{y:aM} (M:eY y=true):∀(H J:List aM) (σ:FSt),(∀x,x∈H->(Pair x y∨aGZ x y)∧∃(i:Nat) (o:Oper),ops[i]? = some o∧nZ P C.nt ops o=some x.bare)->
  (H.Pairwise λx x'=>∀t,x'.dst=some t->x.dst≠some t)->Real C σ->(∀x,x∈H->∀t,x.dst=some t->σ.s t=.junk)->(H≠[]->∀t,y.dst=some t->σ.s t=.junk)->
  vcE P K (H++y::J) σ->vcE P K (y::(H++J)) σ
 | [],J,σ,_,_,_,_,_,hv=>hv
 | x::H,J,σ,hp,hd,hr,j1,j2,hv=>by
  obtain⟨F,i,o,ho,hc⟩:=hp x (by simp);have ha:lW x y=true:=by rcases F with h|h<;>exact h.ap
  have ax:∀t,y.dst=some t->x.dst≠some t:=by
   intro t G h;have:=ha;simp only[lW,h,Aw,BB,AB] at this;exact this.1.2 G
  rcases F with F|F
  .have V:=F.fx;simp only[Ae,vcE,V,Bj] at hv;obtain⟨δx,h1,h2⟩:=hv
   have:=aHT M H J (app x.dst δx σ) (λz I=>hp z (by simp[I])) hd.tail (aF2 ho hc hr h1) (λz I t G=>by
     rw[rQ ((Df hd I) t G)];exact j1 z (by simp[I]) t G) (λ_ t G=>by
     rw[rQ (ax t G)];exact j2 (by simp) t G) h2
   simp only[vcE,M,Bj] at this;obtain⟨δy,h3,Y⟩:=this;obtain⟨σl,a,w,S,ρ,κ,e,O⟩:=hr;obtain⟨Z,h6,h7⟩:=aJV h1 h3 (by rw[←e];exact O.wf) V M F.ap (j1 x (by simp)) (j2 (by simp));simp only[vcE,M,V,Bj,Ae];exact⟨δy,Z,δx,h6,by rw[h7];exact Y⟩
  .have V:=F.fx;simp only[Ae,vcE,V,AO,Bc] at hv;obtain⟨σl,e,h2⟩:=hv;obtain⟨r,⟨h3,Y⟩,Z⟩:=aL9 F.gx F.kx h2;obtain⟨σ0,a,w,S,ρ,κ,e0,O⟩:=hr
   have U:Real C r.f:=by
    obtain⟨a',w',σ',S',ρ',κ',q1,q2⟩:=aH1 (aIm (Q:=λ_ _ _=>False) ho hc (Z (fun σ'=>σ'=r) rfl) (by rw[e,←e0];exact O));exact⟨σ',a',w',S',ρ',κ',by rw[q1],q2⟩
   have sl:∀t,look σl.s t=σ.s t:=λt=>congrFun (Cm FSt.s e) t
   have:=aHT M H J r.f (λz I=>hp z (by simp[I])) hd.tail U (λz I t G=>by
     exact Y t ((Df hd I) t G) ((sl t).trans (j1 z (by simp[I]) t G))) (λ_ t G=>by
     exact Y t (ax t G) ((sl t).trans (j2 (by simp) t G))) h3
   simp only[vcE,M,Bj] at this;obtain⟨δ',g1,σ3,g2,g3⟩:=aJl (K:=λf=>vcE P K (H++J) f) F (Z (fun σ'=>∃δ,zT P y σ'.f δ∧vcE P K (H++J) (app y.dst δ σ'.f)) this);rw[e] at g1 g2;simp only[vcE,M,V,AO,Bc,Bj,Ae];exact⟨δ',g1,σ3,g2,aC5 g3⟩
def aMc (o:Oper) (k:Nat):Bool:=o.after.any λe=>Region.binds .any e&&e.on==k
def x9 (ops:Array Oper):Nat->Nat->Nat->Bool
 |0,_,_=>false
 | n+1,k,i=>match ops[i]? with
  |some o=>o.after.any λe=>Region.binds .any e&&(e.on==k||x9 ops n k e.on)
  |none=>false
def xR (aops:List aM) (k:Nat):Bool:=match(aops[k]?).bind (·.dst) with
 |some d=>(List.range aops.length).all λj=>j==k||!(((aops[j]?).bind (·.dst))==some d)
 |none=>true
def aDO (ops:Array Oper) (k i:Nat):Bool:=match ops[i]? with|some o=>!aMc o k|none=>false
def aNQ (x y:aM):Bool:=eY x&&!eY y&&y.guard.isNone&&lW x y&&match y.op with
 |.store ..=>aA7 x.op
 |.append ..=>match x.op with|.mv _=>true|_=>false
 |_=>false
def aLG (x y:aM):Bool:=eY x&&!eY y&&y.guard.isNone&&lW x y&&x.dst.isSome&&(match y.op with
  |.append ..=>true
  |_=>false)&&match x.op with
 |.load ..=>true
 |.fieldAddr ..=>true
 |_=>false
def aKw (x y:aM):Bool:=!eY x&&eY y&&x.guard.isNone&&y.guard.isNone&&lW x y&&y.dst.isSome&&(match x.op with
  |.append ..=>true
  |_=>false)&&match y.op with
 |.load g _ _=>g
 |.fieldAddr ..=>true
 |_=>false
def aNF (x y:aM):Bool:=!eY x&&eY y&&x.guard.isNone&&y.guard.isNone&&lW x y&&y.dst.isSome&&(match x.op with
  |.append ..=>true
  |_=>false)&&aCe y.op
def aGe (x y:aM):List Nat:=(if aLG x y then(match x.dst with
  |some d=>[d+1000000]
  |none=>[]) else[])++if aKw x y then(match y.dst with
  |some d=>[d+1000000]
  |none=>[]) else[]
def aA8 (ops:Array Oper) (aops:List aM) (k i:Nat):Bool:=match aops[k]?,aops[i]? with
 |some x,some y=>(aNF x y||(aLG x y||aKw x y))&&xR aops k&&xR aops i&&!x9 ops ops.size k i
 |_,_=>false
def aDn (aops:List aM) (k i:Nat):Bool:=match aops[k]?,aops[i]? with
 |some x,some y=>((eY x&&eY y&&lW x y)||aNQ x y)&&xR aops k&&xR aops i
 |_,_=>false
def aNU (ops:Array Oper):Bool:=(List.range ops.size).all λi=>match ops[i]? with
 |some o=>o.after.all λe=>!Region.binds .any e||decide (e.on<i)
 |none=>true
def rY (n:Nat) (ops:Array Oper):List (Nat×Nat):=(List.range n).flatMap λi=>(List.range i).filterMap λk=>if aDO ops k i then some (k,i) else none
def aNM (ops:Array Oper) (aops:List aM):Bool:=aNU ops&&(rY ops.size ops).all λp=>(aDn aops p.1 p.2||aA8 ops aops p.1 p.2)||x9 ops ops.size p.1 p.2
def aGz (ops:Array Oper) (aops:List aM):List Nat:=(((rY ops.size ops).filter λp=>aDn aops p.1 p.2||aA8 ops aops p.1 p.2).flatMap λp=>((aops[p.1]?).bind (·.dst)).toList++((aops[p.2]?).bind (·.dst)).toList++(if aA8 ops aops p.1 p.2 then(match aops[p.1]?,aops[p.2]? with
  |some x,some y=>aGe x y
  |_,_=>[]) else[])).eraseDups
def setB (ops:Array Oper) (i:Nat):Bool:=(rY ops.size ops).all λp=>!(p.1==i||p.2==i)||x9 ops ops.size p.1 p.2
def writes (P:Program):AOp->Bool
 | .call (.func g) _ _=>match P.funcs[g]? with
  |some fn=>fn.name == "loop.example/g01012/spec.l15Do"
  |none=>false
 |_=>false
def aJm (P:Program) (ops:Array Oper) (aops:List aM):List Nat:=(List.range aops.length).filterMap λi=>match aops[i]? with
 | some o=>match o.dst with
  |some d=>if writes P o.op&&setB ops i then some (d+2000000) else none
  |none=>none
 |none=>none
def dF (P:Program) (nt:Nat) (ops:Array Oper):Option (List Nat):=match aCC P nt ops ops.toList with
 |some l=>if Nat.ble nt 1000000&&aNM ops l then some (aGz ops l++aJm P ops l) else none
 |none=>none
end
section
variable [Envs]
variable {P:Program}{C:Ctx}{a:Act}{w:World}{S:Nat->Prop}{ρ:Name->Option Nat}{κ:Name->Nat}
theorem aD3 (aops:List aM) (F G:List Nat):atL aops (F++G)=atL aops F++atL aops G:=by simp[atL]
structure Plan (P:Program) (C:Ctx) (ops:Array Oper) (aops:List aM) (F:Nat->Prop):Prop where
 corr:∀(j:Nat) (ao:aM),aops[j]? = some ao->∃o:Oper,ops[j]? = some o∧nZ P C.nt ops o=some ao.bare
 len:ops.size=aops.length
 back:∀(i:Nat) (o:Oper),ops[i]? = some o->∀e,e∈o.after->Region.binds .any e=true->e.on<i
 pair:∀k i,k<i->i<ops.size->aDO ops k i=true->x9 ops ops.size k i=false->F k∧F i∧∀(x y:aM),aops[k]? = some x->aops[i]? = some y->Pair x y∨aG0 x y∨aGZ x y
 uniq:∀k,F k->∀(x:aM) (d:Nat),aops[k]? = some x->x.dst=some d->∀(j:Nat) (y:aM),j≠k->aops[j]? = some y->y.dst≠some d
theorem aD4 {ops:Array Oper}{F:Array Bool} (G:∀(j:Nat) (o:Oper),ops[j]? = some o->F.getD j false=true->∀e,e∈o.after->Region.binds .any e=true->F.getD e.on false=true) :
  ∀(n k i:Nat) (o:Oper),ops[i]? = some o->(∀e,e∈o.after->Region.binds .any e=true->F.getD e.on false=true)->x9 ops n k i=true->F.getD k false=true
 |0,_,_,_,_,_,h=>by simp[x9] at h
 | n+1,k,i,o,ho,hl,h=>by
  simp only[x9,ho] at h;rw[←Array.any_toList,List.any_eq_true] at h;obtain⟨e,I,h⟩:=h;simp only[Aw,Ct,BO] at h;have H:=hl e (by simpa using I) h.1;rcases h.2 with h2|h2
  .rw[←h2];exact H
  .cases ho':ops[e.on]? with
   | none =>
    cases n with
    |zero=>simp[x9] at h2
    |succ n=>simp[x9,ho'] at h2
   |some o'=>exact aD4 G n k e.on o' ho' (G e.on o' ho' H) h2
theorem aOW {ops:Array Oper}{aops:List aM}{F:Nat->Prop}{K:St->Prop}{Q:Exit->Act->World->Prop} (hp:Plan P C ops aops F) (hQ:∀a w,dV C K a w->Q .normal a w) :
  ∀ (n:Nat) (r:List Nat) (G:Array Bool) (V:St) (a:Act) (w:World) (S:Nat->Prop) (ρ:Name->Option Nat) (κ:Name->Nat),r.length=n->r.Pairwise (· < ·)->G.size=ops.size->
   (∀i,i∈r↔i<ops.size∧G.getD i true=false)->(∀i,i∈r->F i->∀(x:aM) (d:Nat),aops[i]? = some x->x.dst=some d->look V.s d=.junk)->
   (∀(j:Nat) (o:Oper),ops[j]? = some o->G.getD j false=true->∀e,e∈o.after->Region.binds .any e=true->G.getD e.on false=true)->
   vcE P (λf=>∃σ':St,σ'.f=f∧K σ') (atL aops r) V.f->OK C V.f a w S ρ κ->wpAny P .any ops Q n G a w:=by
 intro n
 induction n with
 | zero =>
  intro r G V a w S ρ κ hn _ qh hr _ _ hv hg;obtain rfl:=List.length_eq_zero_iff.1 hn;refine⟨?_,?_⟩
  .cases h:Region.ready .any ops G with
   |nil=>rfl
   | cons i l =>
    have:i∈Region.ready .any ops G:=by rw[h];simp
    obtain⟨h1,o,h2,_⟩:=mem_ready.1 this;have:i∈([]:List Nat):=(hr i).2 ⟨(Da.1 h2).1,h1⟩;cases this
  .obtain⟨σ',h1,h2⟩:=hv;exact hQ a w ⟨σ',S,ρ,κ,h2,by rw[h1];exact hg⟩
 | succ n ih =>
  intro r G V a w S ρ κ hn J qh hr hj qa hv hg
  have done:∀i,i<ops.size->i∉r->G.getD i false=true:=by
   intro i hi h7;cases h:G.getD i true with
   |false=>exact absurd ((hr i).2 ⟨hi,h⟩) h7
   | true =>
    have:i<G.size:=by omega
    simp[this] at h⊢;exact h
  refine⟨λqg=>?_,λi hi=>?_⟩
  .exfalso;cases r with
   |nil=>simp at hn
   | cons r0 r =>
    obtain⟨h1,h2⟩:=(hr r0).1 (by simp)
    have:r0∈Region.ready .any ops G:=mem_ready.2 ⟨h2,ops[r0],by simp[h1],λe he hb=>by
      have Z:=hp.back r0 ops[r0] (by simp[h1]) e he hb;refine done e.on (by omega) λhm=>?_;rcases Am.1 hm with h|h
      . omega
      . have:=Df J h;omega⟩
    rw[qg] at this;cases this
  .obtain⟨h1,oi,h2,h3⟩:=mem_ready.1 hi;have Y:i<ops.size:=(Da.1 h2).1;have h7:i∈r:=(hr i).2 ⟨Y,h1⟩;obtain⟨M,r2,rfl⟩:=List.append_of_mem h7;have qj:i<aops.length:=by rw[←hp.len];exact Y
   obtain⟨y,hy⟩:∃y,aops[i]? = some y:=⟨aops[i],by simp[qj]⟩;obtain⟨qp,g1,g2⟩:=hp.corr i y hy;rw[h2] at g1;obtain rfl:=Ay g1;have Z:∀k,k∈M->k<i:=λk I=>(Bo.1 J).2.2 k I i (by simp)
   have qc:∀k,k∈M->aDO ops k i=true:=by
    intro k I;simp only[aDO,h2,aMc,BB,List.any_eq_false,←Array.any_toList];intro e he;simp only[Aw,BO,not_and];intro hb qk;have h4:=h3 e (by simpa using he) hb;have h5:=((hr k).1 (by simp[I])).2;rw[qk] at h4;have:k<G.size:=by have:=Z k I;omega
    simp[this] at h4 h5;rw[h4] at h5;cases h5
   have h6:∀k,k∈M->x9 ops ops.size k i=false:=by
    intro k I;cases h:x9 ops ops.size k i with
    |false=>rfl
    | true =>
     have h4:=aD4 qa ops.size k i oi h2 h3 h;have h5:=((hr k).1 (by simp[I])).2;have:k<G.size:=by have:=Z k I;omega
     simp[this] at h4 h5;rw[h4] at h5;cases h5
   have hf:∀x,x∈atL aops M->∃k,k∈M∧aops[k]? = some x:=by
    intro x U;obtain⟨k,I,O⟩:=List.mem_filterMap.1 U;exact⟨k,I,O⟩
   have e1:atL aops (M++i::r2)=atL aops M++y::atL aops r2:=by
    rw[aD3];simp[atL,hy]
   rw[e1] at hv;have h0:=(Bo.1 J).1
   have hc:(atL aops M).Pairwise λx x'=>∀t,x'.dst=some t->x.dst≠some t:=by
    have:M.Pairwise λk k'=>∀x,aops[k]? = some x->∀x',aops[k']? = some x'->∀t,x'.dst=some t->x.dst≠some t:=by
     refine h0.imp_of_mem λ{k k'} I hk' hkk x U x' h9 t ht=>?_;have hF:=(hp.pair k' i (Z k' hk') Y (qc k' hk') (h6 k' hk')).1;exact hp.uniq k' hF x' t h9 ht k x (by omega) U
    exact List.pairwise_filterMap.2 (this.imp λh x U x' h9=>h x U x' h9)
   have hs:Real C V.f:=⟨V,a,w,S,ρ,κ,rfl,hg⟩;have H:∀k,k∈M->F k∧F i∧∀(x y:aM),aops[k]? = some x->aops[i]? = some y->Pair x y∨aG0 x y∨aGZ x y:=λk I=>hp.pair k i (Z k I) Y (qc k I) (h6 k I)
   have qe:∀x,x∈atL aops M->∀t,x.dst=some t->V.f.s t=.junk:=by
    intro x U t ht;obtain⟨k,I,O⟩:=hf x U;exact hj k (by simp[I]) (H k I).1 x t O ht
   have ha:vcE P (λf=>∃σ':St,σ'.f=f∧K σ') (y::(atL aops M++atL aops r2)) V.f:=by
    by_cases hu:eY y=true
    .refine aHT (P:=P) (C:=C) (ops:=ops) (y:=y) hu (atL aops M) (atL aops r2) V.f (λx U=>?_) hc hs qe (λql t ht=>?_) hv
     .obtain⟨k,I,O⟩:=hf x U;obtain⟨o,q1,q2⟩:=hp.corr k x O;refine⟨?_,k,o,q1,q2⟩;rcases(H k I).2.2 x y O hy with h|h|h
      .exact .inl h
      .have:=h.fy;rw[hu] at this;cases this
      .exact .inr h
     .cases M with
      |nil=>exact absurd rfl ql
      |cons k _=>exact hj i (by simp) (H k (by simp)).2.1 y t hy ht
    .refine aL7 (P:=P) (C:=C) (ops:=ops) (y:=y) (atL aops M) (atL aops r2) V.f (λx U=>?_) hc hs qe hv;obtain⟨k,I,O⟩:=hf x U;obtain⟨o,q1,q2⟩:=hp.corr k x O;refine⟨?_,k,o,q1,q2⟩;rcases(H k I).2.2 x y O hy with h|h|h
     .exact absurd h.fy hu
     .exact h
     .exact absurd h.fy hu
   have e2:atL aops M++atL aops r2=atL aops (M++r2):=(aD3 _ _ _).symm;rw[e2] at ha
   have hw:i∉M∧i∉r2:=by
    have hq:=Bo.1 J;exact⟨λh=>Dh _ (Z i h),λh=>Dh _ (Df hq.2.1 h)⟩
   have hz:(M++r2).Pairwise (· < ·):=by
    have hq:=Bo.1 J;exact Bo.2 ⟨hq.1,hq.2.1.tail,λx U y hy=>hq.2.2 x U y (by simp[hy])⟩
   have qm:∀k,k∈M++r2↔k<ops.size∧(G.setIfInBounds i true).getD k true=false:=by
    intro k;by_cases hd:k=i
    .subst hd;have:k<G.size:=by omega
     simp[hw.1,hw.2,this]
    .rw[getD_set_ne true (DN hd),←hr k];simp[hd]
   have qb:∀(j:Nat) (o:Oper),ops[j]? = some o->(G.setIfInBounds i true).getD j false=true->∀e,e∈o.after->Region.binds .any e=true->(G.setIfInBounds i true).getD e.on false=true:=by
    intro j o ho hl e he hb;refine getD_set_true ?_;by_cases qd:i=j
    .subst qd;rw[h2] at ho;obtain rfl:=Ay ho;exact h3 e he hb
    .rw[getD_set_ne false qd] at hl;exact qa j o ho hl e he hb
   have next:∀(σ':St) a' w',aDI y.dst V σ'->vcE P (λf=>∃σ':St,σ'.f=f∧K σ') (atL aops (M++r2)) σ'.f->(∃S ρ κ,OK C σ'.f a' w' S ρ κ)->wpAny P .any ops Q n (G.setIfInBounds i true) a' w':=by
    rintro σ' a' w' I qn ⟨S',ρ',κ',hok'⟩;refine ih (M++r2) _ σ' a' w' S' ρ' κ' (by simp at hn⊢;omega) hz (by simp[qh]) qm (λk qf hF x d U qi=>?_) qb qn hok'
    have hd:k≠i:=by
     rintro rfl;rcases Bg.1 qf with h|h
     .exact hw.1 h
     .exact hw.2 h
    refine I d (hp.uniq k hF x d U qi i y (DN hd) hy) (hj k ?_ hF x d U qi);rcases Bg.1 qf with h|h
    .simp[h]
    .simp[h]
   simp only[vcE] at ha;split at ha
   .obtain⟨δ,q1,q2⟩:=ha;have qo:=aKj (P:=P) (o:=y) (σ:=canon V) (δ:=δ) (aBy V) (by rw[nA];exact q1);refine wpOp_mono (λa' w' ⟨σ',S',ρ',κ',m1,m2⟩=>?_) (aIm h2 g2 qo (by rw[nA];exact hg));rw[nA] at m1;refine next σ' a' w' (λt ht h8=>?_) (by rw[m1];exact q2) ⟨S',ρ',κ',m2⟩
    have:σ'.f.s t=(app y.dst δ V.f).s t:=by rw[m1]
    rw[rQ ht] at this;exact this.trans h8
   .obtain⟨σ2,q1,q2⟩:=ha;refine wpOp_mono (λa' w' ⟨σ',S',ρ',κ',m1,m2⟩=>?_) (aIm h2 g2 q2 (by rw[q1];exact hg));refine next σ' a' w' (λt ht h8=>m1.2 t ht ?_) m1.1 ⟨S',ρ',κ',m2⟩
    have:σ2.f.s t=V.f.s t:=by rw[q1]
    exact this.trans h8
theorem bJ (ao:aM):aN ao.bare.op=aN ao.op∧ao.bare.dst=ao.dst∧ao.bare.guard=ao.guard∧xG ao.bare.op=xG ao.op:=by
 obtain⟨d,op,g⟩:=ao;cases op<;>exact⟨rfl,rfl,rfl,rfl⟩
theorem aHf (y:aM) (t:Nat):o9 y.bare t=o9 y t:=by
 grind [bJ,o9]
theorem rG (x y:aM):lW x.bare y.bare=lW x y:=by
 grind [bJ,o9,aHf,lW]
theorem aHF {x:aM} (h:eY x.bare=true) (G:∀f args bor,x.op=.call f args bor->bor=[]) (H:∀k n z F,x.op≠.bsliceC k n z F):eY x=true:=by
 obtain⟨d,op,g⟩:=x;cases op
 case bsliceC k n z F=>exact absurd rfl (H k n z F)
 case call f args bor =>
  have:=G f args bor rfl;subst this;exact h
 all_goals exact h
theorem aJE {s:List (Nat×AV)}{d:Nat} (h:(s.all λp=>!(p.1==d))=true):look s d=.junk:=by
 induction s with
 |nil=>rfl
 | cons p r ih =>
  obtain⟨i,x⟩:=p;simp only[BJ,Aw,BB,AB] at h;simp only[look];rw[AC (λe=>h.1 e.symm)];exact ih h.2
theorem zL {α β:Type}{f g:α->Option β}:∀{l:List α},(∀x,x∈l->f x=g x)->l.filterMap f=l.filterMap g
 | [],_=>rfl
 |x::r,h=>by simp only[List.filterMap_cons,h x (by simp),zL (l:=r) λy F=>h y (by simp[F])]
instance:Inhabited aM:=⟨⟨none,.lenC 0,none⟩⟩
theorem rE (hm:P.follows .mixedOrders=true):lX P (dF P):=by
 intro C id ops aops fl K Q σ a w S ρ κ hd hc hen hQ hv hok;unfold dF at hd;rw[hc] at hd;simp only at hd;split at hd
 .rename_i hop;obtain rfl:=Ay hd;simp only[aNM,Aw,Az] at hop;obtain⟨hnt,hback,hpairs⟩:=hop;have hnt:=Bd hnt
  have hset0:∀(k:Nat) (x:aM) (d:Nat),aops[k]? = some x->x.dst=some d->d+2000000∈aGz ops (aops.map aM.bare)++aJm P ops (aops.map aM.bare)->∃k' x',aops[k']? = some x'∧x'.dst=some d∧setB ops k'=true:=by
   intro k x d hx hd hm
   have hdn:∀(k:Nat) (d:Nat),((aops.map aM.bare)[k]?).bind (·.dst)=some d->d<1000000:=by
    intro k d hd
    have hkl:k<aops.length:=by
     rcases Db k aops.length with h|h
     .exact h
     .simp[h] at hd
    obtain⟨_,g2⟩:=nX hc;obtain⟨o,q1,q2⟩:=g2 k aops[k] (by simp[hkl]);obtain⟨_,h2,h3,_⟩:=iQ q2
    have:aops[k].dst=some d:=by
     have e:((aops.map aM.bare)[k]?).bind (·.dst)=aops[k].dst:=by simp[hkl,(bJ aops[k]).2.1]
     rw[←e];exact hd
    have hlt:d<C.nt:=h3 d (h2.trans this);omega
   rcases Bg.1 hm with hm|hm
   .exfalso;simp only[aGz,List.mem_eraseDups,Dz,Dm] at hm;obtain⟨p,_,hp⟩:=hm;rcases Bg.1 hp with hp|hp
    .rcases Bg.1 hp with hp|hp
     .have:=hdn _ _ (Option.mem_toList.1 hp);omega
     .have:=hdn _ _ (Option.mem_toList.1 hp);omega
    .split at hp
     .split at hp
      .rename_i x' y' hx' hy';unfold aGe at hp;rcases Bg.1 hp with hp|hp
       .split at hp
        .split at hp
         .rename_i d' hd';have:=hdn p.1 d' (by rw[hx'];exact hd');simp at hp;omega
         .cases hp
        .cases hp
       .split at hp
        .split at hp
         .rename_i d' hd';have:=hdn p.2 d' (by rw[hy'];exact hd');simp at hp;omega
         .cases hp
        .cases hp
      .cases hp
     .cases hp
   .simp only[aJm,List.mem_filterMap,Co,Bh] at hm;obtain⟨i,hi,hm⟩:=hm;split at hm
    .rename_i o ho;split at hm
     .rename_i d' hd';split at hm
      .rename_i hw;simp only[Ab] at hm;have hdd:d'=d:=by omega
       simp only[Aw] at hw
       obtain ⟨x',hx',rfl⟩:∃x',aops[i]? = some x'∧x'.bare=o:=by
        rw[Cv] at ho;exact Cr.1 ho
       exact⟨i,x',hx',by rw[←(bJ x').2.1,hd',hdd],hw.2⟩
      .cases hm
     .cases hm
    .cases hm
  obtain⟨g1,g2⟩:=nX hc;have hlen:ops.size=aops.length:=by simpa using g1
  have hmem:∀k i,k<i->i<ops.size->aDO ops k i=true->(k,i)∈rY ops.size ops:=by
   intro k i hk hi hf;simp only[rY,Dz,Co,List.mem_filterMap];exact⟨i,hi,k,hk,by rw[AP hf]⟩
  let F:Nat->Prop:=λk=>∃p,p∈rY ops.size ops∧(aDn (aops.map aM.bare) p.1 p.2||aA8 ops (aops.map aM.bare) p.1 p.2)=true∧x9 ops ops.size p.1 p.2=false∧(p.1=k∨p.2=k)
  have bareAt:∀(i:Nat) (x:aM),aops[i]? = some x->(aops.map aM.bare)[i]? = some x.bare:=by
   intro i x hx;simp[hx]
  have hfl:∀(k:Nat) (x:aM) (d:Nat),F k->aops[k]? = some x->x.dst=some d->d∈aGz ops (aops.map aM.bare)++aJm P ops (aops.map aM.bare):=by
   rintro k x d ⟨p,hp,hpp,hpa,hpk⟩ hx hd;refine Cq _ ?_;simp only[aGz,List.mem_eraseDups,Dz,Dm];refine⟨p,⟨hp,hpp⟩,?_⟩;have:((aops.map aM.bare)[k]?).bind (·.dst)=some d:=by rw[bareAt k x hx];simp[(bJ x).2.1,hd]
   rcases hpk with h|h
   .rw[h,this];simp
   .rw[h,this];simp
  have hmk:∀(k i:Nat) (x y:aM) (d:Nat),(k,i)∈rY ops.size ops->aA8 ops (aops.map aM.bare) k i=true->aops[k]? = some x->aops[i]? = some y->d∈aGe x.bare y.bare->d∈aGz ops (aops.map aM.bare)++aJm P ops (aops.map aM.bare):=by
   intro k i x y d hp hpp hx hy hd;refine Cq _ ?_;simp only[aGz,List.mem_eraseDups,Dz,Dm];refine⟨(k,i),⟨hp,by rw[hpp,Bool.or_true]⟩,?_⟩;simp only[bareAt k x hx,bareAt i y hy,hpp,Bj];simp[hd]
  simp only[aBX,Aw,Az] at hen
  replace hen:=hen.2
  have hjunk:∀(k:Nat) (x:aM) (d:Nat),F k->aops[k]? = some x->x.dst=some d->look σ.s d=.junk:=λk x d hF hx hd =>
   aJE (by simpa using hen.1 d (hfl k x d hF hx hd))
  have hbor:∀(k:Nat) (x:aM),F k->aops[k]? = some x->eY x.bare=true->eY x=true:=by
   intro k' x hF hx hfr
   have hds:xG x.bare.op=false->x.dst.isSome=true:=by
    intro hi;simp only[eY,Aw,Ct,hi,(bJ x).2.1,AO,BQ] at hfr;exact hfr.2
   have hsl:∀k n z ps,x.op≠.bsliceC k n z ps:=by
    intro k n z ps e;obtain⟨d,hd⟩:=AA.1 (hds (by rw[(bJ x).2.2.2,e];rfl));have h1:=hen.2 x (BS hx);rw[e,hd] at h1;have h2:=hfl k' x d hF hx hd;simp[h2] at h1
   refine aHF hfr (λf args bor e=>?_) hsl;obtain⟨d,hd⟩:=AA.1 (hds (by rw[(bJ x).2.2.2,e];rfl));have h1:=hen.2 x (BS hx);rw[e,hd] at h1;have h2:=hfl k' x d hF hx hd;simp only[Ct,List.isEmpty_iff,BB,List.contains_eq_mem,BD,Bb] at h1;rcases h1 with(h1|h1)|h1
   .exact h1
   .exact absurd h2 h1
   .exfalso;obtain⟨k2,x2,g1,g2,g3⟩:=hset0 _ x d hx hd h1;obtain⟨⟨ka,ia⟩,hp,hpp,hpa,hpk⟩:=hF
    have hu:xR (aops.map aM.bare) ka=true∧xR (aops.map aM.bare) ia=true:=by
     rw[Ct] at hpp;rcases hpp with hpp|hpp
     .simp only[aDn] at hpp;split at hpp
      .simp only[Aw] at hpp;exact⟨hpp.1.2,hpp.2⟩
      .cases hpp
     .simp only[aA8] at hpp;split at hpp
      .simp only[Aw] at hpp;exact⟨hpp.1.1.2,hpp.1.2⟩
      .cases hpp
    have huk:xR (aops.map aM.bare) k'=true:=by
     rcases hpk with h|h
     .simp only at h;rw[←h];exact hu.1
     .simp only at h;rw[←h];exact hu.2
    unfold xR at huk;have e1:((aops.map aM.bare)[k']?).bind (·.dst)=some d:=by rw[bareAt k' x hx];simp[(bJ x).2.1,hd]
    have e2:((aops.map aM.bare)[k2]?).bind (·.dst)=some d:=by rw[bareAt k2 x2 g1];simp[(bJ x2).2.1,g2]
    rw[e1] at huk;simp only[Az,Co,Bh] at huk;have hq:=huk k2 (CB.1 g1).1;rw[e2] at hq;have hkk:k2=k':=by simpa using hq
    subst hkk;unfold setB at g3;have:=Az.1 g3 _ hp;simp only[hpa,Bool.or_false,BB,Bool.or_eq_false_iff,AB] at this;rcases hpk with h|h
    .exact this.1 h
    .exact this.2 h
  have hno:∀(k:Nat) (x:aM) (d:Nat),aops[k]? = some x->x.dst=some d->d+1000000∈aGz ops (aops.map aM.bare)++aJm P ops (aops.map aM.bare)->(∀g n a,x.op≠.load g n a)∧∀o a,x.op≠.fieldAddr o a:=by
   intro k x d hx hd hm;have h1:=hen.2 x (BS hx);refine⟨λg n a e=>?_,λo a e=>?_⟩
   .rw[e,hd] at h1;simp[hm] at h1
   .rw[e,hd] at h1;simp[hm] at h1
  have hpair:∀k i,(k,i)∈rY ops.size ops->(aDn (aops.map aM.bare) k i||aA8 ops (aops.map aM.bare) k i)=true->x9 ops ops.size k i=false->∀(x y:aM),aops[k]? = some x->aops[i]? = some y->(Pair x y∨aG0 x y∨aGZ x y)∧xR (aops.map aM.bare) k=true∧xR (aops.map aM.bare) i=true:=by
   intro k i hki h hpa x y hx hy;have hpp:=h;rw[Ct] at h;rcases h with h|h
   .simp only[aDn,bareAt k x hx,bareAt i y hy,Aw,Ct,rG] at h;refine⟨?_,h.1.2,h.2⟩;rcases h.1.1 with h1|h1
    .exact .inl ⟨hbor k x ⟨_,hki,hpp,hpa,.inl rfl⟩ hx h1.1.1,hbor i y ⟨_,hki,hpp,hpa,.inr rfl⟩ hy h1.1.2,h1.2⟩
    .right;left
     simp only[aNQ,Aw,rG,BB,(bJ y).2.2.1,Option.isNone_iff_eq_none] at h1;obtain⟨⟨⟨⟨q1,q2⟩,q3⟩,q4⟩,q5⟩:=h1
     have q2':eY y=false:=by
      obtain⟨d,op,g⟩:=y
      cases op<;>first
       |exact q2
       |(exfalso;revert q5;simp[aM.bare,AOp.bare,AOp.bare0])
     refine⟨hbor k x ⟨_,hki,hpp,hpa,.inl rfl⟩ hx q1,q2',q3,q4,?_⟩;obtain⟨dy,opy,gy⟩:=y;obtain⟨dx,opx,gx⟩:=x;cases opy<;>simp only[aM.bare,AOp.bare,AOp.bare0] at q5<;>try(cases q5;done)
     .refine .inl ⟨_,_,_,rfl,?_⟩;cases opx<;>first|exact q5|simp[aA7,AOp.bare,AOp.bare0] at q5
     .right
      cases opx<;>simp only[AOp.bare,AOp.bare0] at q5<;>try(cases q5;done)
      exact⟨_,_,_,_,_,.inl rfl,.inl rfl⟩
     .right
      cases opx<;>simp only[AOp.bare,AOp.bare0] at q5<;>try(cases q5;done)
      exact⟨_,_,_,_,_,.inr rfl,.inl rfl⟩
   .have hN:=h;simp only[aA8,bareAt k x hx,bareAt i y hy,Aw,Ct] at h;refine⟨?_,h.1.1.2,h.1.2⟩;rcases h.1.1.1 with h1|h1|h1
    .right;right
     simp only[aNF,Aw,rG,BB,(bJ y).2.2.1,(bJ x).2.2.1,(bJ y).2.1,Option.isNone_iff_eq_none] at h1;obtain⟨⟨⟨⟨⟨⟨⟨q1,q2⟩,q3⟩,q4⟩,q5⟩,q6⟩,q7⟩,q8⟩:=h1
     have kx:∃k b A X,x.op=.append k b A X∨x.op=.appendC k b A X:=by
      obtain⟨dx,opx,gx⟩:=x;cases opx<;>simp only[aM.bare,AOp.bare,AOp.bare0] at q7<;>try(cases q7;done)
      .exact⟨_,_,_,_,.inl rfl⟩
      .exact⟨_,_,_,_,.inr rfl⟩
     have q1':eY x=false:=by
      obtain⟨k',b',A',X',h|h⟩:=kx<;>simp only[eY,h,rO,Bool.false_and]
     refine⟨q1',hbor i y ⟨_,hki,hpp,hpa,.inr rfl⟩ hy q2,q3,q4,q5,kx,.inr ?_⟩;obtain⟨dy,opy,gy⟩:=y;cases opy<;>simp only[aM.bare,AOp.bare,AOp.bare0,aCe] at q8<;>first|rfl|(cases q8;done)
    .right;left
     have hh:=h1;simp only[aLG,Aw,rG,BB,(bJ y).2.2.1,(bJ x).2.1,Option.isNone_iff_eq_none] at h1;obtain⟨⟨⟨⟨⟨⟨q1,q2⟩,q3⟩,q4⟩,q6⟩,q7⟩,q8⟩:=h1;obtain⟨d,hdx⟩:=AA.1 q6;have hmark:=hno k x d hx hdx (hmk k i x y _ hki hN hx hy (by unfold aGe;rw[AP hh,(bJ x).2.1,hdx];exact Cq _ (Av.2 rfl)))
     have ky:∃k b A X,y.op=.append k b A X∨y.op=.appendC k b A X:=by
      obtain⟨dy,opy,gy⟩:=y;cases opy<;>simp only[aM.bare,AOp.bare,AOp.bare0] at q7<;>try(cases q7;done)
      .exact⟨_,_,_,_,.inl rfl⟩
      .exact⟨_,_,_,_,.inr rfl⟩
     have q2':eY y=false:=by
      obtain⟨k',b',A',X',h|h⟩:=ky<;>simp only[eY,h,rO,Bool.false_and]
     refine⟨hbor k x ⟨_,hki,hpp,hpa,.inl rfl⟩ hx q1,q2',q3,q4,.inr ?_⟩;obtain⟨k',b',A',X',hky⟩:=ky;refine⟨k',b',A',X',.tmp 0,hky,.inr ?_⟩;obtain⟨dx,opx,gx⟩:=x;cases opx<;>simp only[aM.bare,AOp.bare,AOp.bare0] at q8<;>try(cases q8;done)
     case load g n a=>exact absurd rfl (hmark.1 g n a)
     case fieldAddr o a=>exact absurd rfl (hmark.2 o a)
     case loadV g n a=>exact trivial
     case fieldV o a=>exact trivial
    .right;right
     have hh:=h1;simp only[aKw,Aw,rG,BB,(bJ y).2.2.1,(bJ x).2.2.1,(bJ y).2.1,Option.isNone_iff_eq_none] at h1;obtain⟨⟨⟨⟨⟨⟨⟨q1,q2⟩,q3⟩,q4⟩,q5⟩,q6⟩,q7⟩,q8⟩:=h1;obtain⟨d,hdy⟩:=AA.1 q6;have hmark:=hno i y d hy hdy (hmk k i x y _ hki hN hx hy (by unfold aGe;rw[AP hh,(bJ y).2.1,hdy];exact CX _ (Av.2 rfl)))
     have kx:∃k b A X,x.op=.append k b A X∨x.op=.appendC k b A X:=by
      obtain⟨dx,opx,gx⟩:=x;cases opx<;>simp only[aM.bare,AOp.bare,AOp.bare0] at q7<;>try(cases q7;done)
      .exact⟨_,_,_,_,.inl rfl⟩
      .exact⟨_,_,_,_,.inr rfl⟩
     have q1':eY x=false:=by
      obtain⟨k',b',A',X',h|h⟩:=kx<;>simp only[eY,h,rO,Bool.false_and]
     refine⟨q1',hbor i y ⟨_,hki,hpp,hpa,.inr rfl⟩ hy q2,q3,q4,q5,kx,?_⟩;obtain⟨dy,opy,gy⟩:=y;cases opy<;>simp only[aM.bare,AOp.bare,AOp.bare0] at q8<;>try(cases q8;done)
     case load g n a=>exact absurd rfl (hmark.1 g n a)
     case fieldAddr o a=>exact absurd rfl (hmark.2 o a)
     case loadV g n a=>subst q8;exact .inl (.inl ⟨_,_,rfl⟩)
     case fieldV o a=>exact .inl (.inr ⟨_,_,rfl⟩)
  have hplan:Plan P C ops aops F:=by
   refine⟨λj ao hj=>?_,hlen,λi o ho e he hb=>?_,λk i hk hi hf hna=>?_,λk hF x d hx hd j y hjk hy hyd=>?_⟩
   .obtain⟨o,q1,q2⟩:=g2 j ao hj;exact⟨o,by simpa using q1,q2⟩
   .simp only[aNU,Az,Co] at hback;have:=hback i (Da.1 ho).1;rw[ho] at this;have:=Array.all_eq_true'.1 this e he;simpa[hb] using this
   .have hm':=hmem k i hk hi hf
    have hpp:(aDn (aops.map aM.bare) k i||aA8 ops (aops.map aM.bare) k i)=true:=by
     have:=hpairs (k,i) hm';simp only[hna,Bool.or_false] at this;exact this
    exact⟨⟨_,hm',hpp,hna,.inl rfl⟩,⟨_,hm',hpp,hna,.inr rfl⟩,λx y hx hy=>(hpair k i hm' hpp hna x y hx hy).1⟩
   .obtain⟨⟨k',i'⟩,hp,hpp,hpa,hpk⟩:=hF
    have hlt:k'<aops.length∧i'<aops.length:=by
     simp only[rY,Dz,Co,List.mem_filterMap] at hp;obtain⟨i2,h1,k2,h2,h3⟩:=hp;split at h3
     .simp only[Ab,AL] at h3;omega
     .cases h3
    have hu:=hpair k' i' hp hpp hpa aops[k'] aops[i'] (by simp[hlt.1]) (by simp[hlt.2])
    have hu:xR (aops.map aM.bare) k=true:=by
     rcases hpk with h|h
     .simp only at h;subst h;exact hu.2.1
     .simp only at h;subst h;exact hu.2.2
    unfold xR at hu;have e1:((aops.map aM.bare)[k]?).bind (·.dst)=some d:=by rw[bareAt k x hx];simp[(bJ x).2.1,hd]
    have e2:((aops.map aM.bare)[j]?).bind (·.dst)=some d:=by rw[bareAt j y hy];simp[(bJ y).2.1,hyd]
    rw[e1] at hu;simp only[Az,Co,Bh] at hu;have hjl:=(CB.1 hy).1;have:=hu j hjl;rw[e2] at this;simp[hjk] at this
  have hok':OK C σ.f a {w with drawn:=w.drawn+1} S ρ κ:=hok.ext (Ext.of_heap rfl rfl rfl);refine wp_region_any hm ?_;refine aOW hplan hQ ops.size (List.range ops.size) _ σ a _ S ρ κ (by simp) List.pairwise_lt_range (by simp) (λi=>?_) (λi _ hF x d hx hd=>hjunk i x d hF hx hd) (λj o ho hl=>?_) ?_ hok'
  .simp only[Co];constructor
   .intro h;exact⟨h,by simp[h]⟩
   .exact λh=>h.1
  .exfalso;have hj:=(Da.1 ho).1;simp[hj] at hl
  .have e:atL aops (List.range ops.size)=aops:=by
    rw[hlen];unfold atL
    have:∀(l:List aM) (k:Nat),(List.range' k l.length).filterMap (λi=>(List.replicate k default++l)[i]?)=l:=by
     intro l
     induction l with
     |nil=>intro k;simp
     | cons x r ih =>
      intro k;rw[Ac,List.range'_succ,List.filterMap_cons];have h1:(List.replicate k default++x::r)[k]? = some x:=by simp
      rw[h1];have:=ih (k+1);rw[show List.replicate k (default:aM)++x::r=(List.replicate k default++[x])++r by simp]
      have h2:∀i,i∈List.range' (k+1) r.length->((List.replicate k (default:aM)++[x])++r)[i]? = (List.replicate (k+1) default++r)[i]?:=by
       intro i hi;have:=(Dw.1 hi).1;rw[Bi (by simp;omega),Bi (by simp;omega)];simp
      rw[zL h2];simp only;exact Cm (x :: ·) this
    have:=this aops 0;simp only[Ag,Aj] at this;rw[DI,this]
   rw[e];exact aKi aops σ hv
 .cases hd
def l7 (P:Program) (f:FuncId) (fn:Func) (ac:aD):Prop:=
 P.funcs[f]? = some fn∧(fn.body.bind (bN P fn.ntmps (dF P)))=some ac.bare∧(fn.name != "runtime.NumGoroutine")=true
theorem l7.fn {f:FuncId}{fn:Func}{ac:aD} (h:l7 P f fn ac) (hm:P.follows .mixedOrders=true) {hin:List Blk}{args:List AV}{r:AV}{F:List (Option Blk)} (nt:Nat) (rs:List ResultVar) (B:List Name) (hout:List Blk) (I:fn.ntmps=nt) (J:fn.results.toList=rs)
  (ho:F=hout.map some) (G:args.length<=nt) (H:nodupB B=true) (V:∀j,j<hin.length->B[j]? = some (.b j))
  (hw:∀C:Ctx,wpc P C (dF P) ac (sZ P rs B r hout) (λe σ=>match e with|.ret=>sZ P rs B r hout σ|.exit _=>False) ⟨ini 0 args,xZ 0 hin⟩) :
  Fn P f hin args r F:=by
 subst I;subst J;subst ho;obtain⟨O,h2,U⟩:=h;obtain⟨M,Y,Z⟩:=A7.1 h2;exact Fn.intro (rE hm) B O Y (by simpa using U) Z G (qV H) V λC _=>hw C
end
end Go.Vs
