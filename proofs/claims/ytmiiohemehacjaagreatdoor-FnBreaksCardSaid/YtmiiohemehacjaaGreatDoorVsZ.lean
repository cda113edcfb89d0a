/- A region whose order is open: every order gives what the text's order gives. -/
import Derived.Test.YtmiiohemehacjaaGreatDoorVsN
set_option linter.all false
set_option maxHeartbeats 8000000
namespace Go.Vs
section
variable [Envs]
variable {P:Program}{C:Ctx}{a:Act}{w:World}{S:Nat->Prop}{ρ:Name->Option Nat}{κ:Name->Nat}
def vc (P:Program) (K:St->Prop):List aL->St->Prop
 | [],σ=>K σ
 | o::r,σ=>match o.guard with
  |none=>bN P o.dst σ (vc P K r) o.op
  | some (g,want)=>match look σ.s g with
   |.v (.bool b)=>BrW b want (bN P o.dst σ (vc P K r) o.op) (vc P K r ⟨put o.dst (.v (.tuple #[])) σ.s,σ.h⟩)
   |.v (.tuple _)=>vc P K r ⟨put o.dst (.v (.tuple #[])) σ.s,σ.h⟩
   |_=>False
def aL.bare (o:aL):aL:={o with op:=o.op.bare}
def nA (P:Program) (nt:Nat) (ops:Array Oper) (o:Oper):Option aL:=
 match comp P o.op with
 |none=>none
 | some op=>if o.dst.all (λd=>decide (d<nt)) then
   match o.guard with
   |none=>some ⟨o.dst,op,none⟩
   | some (j,want)=>match(ops[j]?).bind (·.dst) with
    |some t=>some ⟨o.dst,op,some (t,want)⟩
    |none=>none
  else none
theorem iJ {nt:Nat}{ops:Array Oper}{o:Oper}{ao:aL} (h:nA P nt ops o=some ao.bare):comp P o.op=some ao.op.bare∧o.dst=ao.dst∧(∀d,o.dst=some d->d<nt)∧
  ((o.guard=none∧ao.guard=none)∨∃j u t,o.guard=some (j,u)∧ao.guard=some (t,u)∧(ops[j]?).bind (·.dst)=some t):=by
 grind [nA,aL.bare]
theorem yO {σ:St}{ops:Array Oper}{o:Oper}{j t:Nat}{F b:Bool} (G:OK C σ.f a w S ρ κ) (J:o.guard=some (j,F)) (M:(ops[j]?).bind (·.dst)=some t) (L:look σ.s t=.v (.bool b)) :
  Region.wanted o (yielded ops a.tmps)=(b==F):=by
 have H:=G.slots t;simp only[St.f] at H;rw[L] at H;have I:=dD H
 have:a.tmps[t]? = some (.bool b):=by
  cases hx:a.tmps[t]? with
  | none =>
   grind [undef]
  | some u =>
   have:a.tmps.getD t undef=u:=by simp[hx]
   rw[this] at I;rw[I]
 simp[Region.wanted,J,yielded,M,this]
theorem yN {σ:St}{ops:Array Oper}{o:Oper}{j t:Nat}{F:Bool}{cs:Array Value} (G:OK C σ.f a w S ρ κ) (I:o.guard=some (j,F)) (L:(ops[j]?).bind (·.dst)=some t) (J:look σ.s t=.v (.tuple cs)) :
  Region.wanted o (yielded ops a.tmps)=false:=by
 have H:=G.slots t;simp only[St.f] at H;rw[J] at H;have M:=dD H;cases hx:a.tmps[t]? with
 |none=>simp[Region.wanted,I,yielded,L,hx]
 | some u =>
  have:a.tmps.getD t undef=u:=by simp[hx]
  all_goals grind [Region.wanted,yielded]
theorem aDY {ops:Array Oper}{Q:Exit->Act->World->Prop}{K:St->Prop} (Y:∀a w,dP C K a w->Q .normal a w):∀(aops:List aL) (k:Nat),(∀j ao,aops[j]? = some ao->∃o,ops[k+j]? = some o∧nA P C.nt ops o=some ao.bare)->
  ∀(σ:St) (a:Act) (w:World) (S:Nat->Prop) (ρ:Name->Option Nat) (κ:Name->Nat),vc P K aops σ->OK C σ.f a w S ρ κ->wpOps P ops Q (List.range' k aops.length) a w
 | [],k,_,σ,a,w,S,ρ,κ,hv,hok=>Y a w ⟨σ,S,ρ,κ,hv,hok⟩
 | ao::r,k,hs,σ,a,w,S,ρ,κ,hv,hok=>by
  obtain⟨o,Z,hc⟩:=hs 0 ao (by simp);simp only[Cg] at Z;obtain⟨h1,h2,J,h4⟩:=iJ hc;rw[Aa,List.range'_succ,wpOps_cons]
  have U:=aDY Y r (k+1) (λj I hj=>by
    obtain⟨o',G,H⟩:=hs (j+1) I (by simpa using hj);exact⟨o',by rw[show k+1+j=k+(j+1) by omega];exact G,H⟩)
  have go:bN P ao.dst σ (vc P K r) ao.op->o.wp P a w (wpOps P ops Q (List.range' (k+1) r.length)) Q:=λM =>
   Oper.wp_mono (λa' w' ⟨σ',S',ρ',κ',hK,hok'⟩=>U σ' a' w' S' ρ' κ' hK hok') (vU (P:=P) h1 hok J (by rw[h2];exact M))
  unfold wpOp;rw[Z];simp only[vc] at hv;rcases h4 with⟨G,H⟩|⟨j,u,t,G,H,V⟩
  .grind [Region.wanted]
  .rw[H] at hv;simp only at hv;split at hv
   .rename_i b L;have O:=yO hok G V L;simp only[O];by_cases F:b=u
    .simp only[F,Dj,Bt];exact .inl (go ((lG.1 hv).1 F))
    .have:(b==u)=false:=by simpa using F
     simp only[this,A8,Bg];have hn:b = !u:=by cases b<;>cases u<;>simp_all
     refine U _ _ _ S ρ κ ((lG.1 hv).2 hn) ?_;have:=hok.put (x:=.v undef) (v:=undef) (.clo (.v _)) J
     all_goals grind [St.f,kH,undef]
   .rename_i cs L;have O:=yN hok G V L;simp only[O,A8,Bg];refine U _ _ _ S ρ κ hv ?_;have:=hok.put (x:=.v undef) (v:=undef) (.clo (.v _)) J
    all_goals grind [St.f,kH,undef]
   .exact hv.elim
/-! ## code -/
inductive kT where
 |ret
 |exit (i:Nat)
inductive aF where
 |skip
 |region (ops:List aL) (out:List Nat) (fl:List Nat)
 |seq (x y:aF)
 |cond (c:Operand) (x y:aF)
 |block (id:Nat) (c:aF)
 |loop (c:aF)
 |exit (id:Nat)
 |ret
 |closing (t:Nat) (c:aF)
 |naming (t:Nat) (c:aF)
def wT (s:List (Nat×AV)):List Nat->List (Nat×AV)
 | []=>[]
 |t::r=>(t,look s t)::wT s r
theorem aBu (s:List (Nat×AV)):∀(l:List Nat) (t:Nat),look (wT s l) t=look s t∨look (wT s l) t=.junk
 | [],t=>.inr rfl
 | i::r,t=>by
  simp only[wT,look];split
  .subst_vars;exact .inl rfl
  .exact aBu s r t
theorem OK.less {σ σ':FSt} (u:OK C σ a w S ρ κ) (U:∀t,σ'.s t=σ.s t∨σ'.s t=.junk) (hh:∀n b,σ'.h n=some b->σ.h n=some b):OK C σ' a w S ρ κ:=by
 have I:∀m,gQ ρ ρ κ κ σ.h σ'.h m:=λm b G=>⟨rfl,rfl,b,hh m b G,b.same_refl⟩
 have F:∀m,(σ'.h m).isSome->(σ.h m).isSome:=by
  intro m O;obtain⟨b,G⟩:=AQ.1 O;simp[hh m b G]
 refine⟨u.nt,u.defers,λt=>?_,⟨λm b G=>?_,λm J y H h2 L M=>u.hok.inj m J y (F m H) (F J h2) L M,u.hok.dom,u.hok.env⟩,u.size,u.old,λm y H h2=>u.mine m y (F m H) h2,u.S0,u.Snew,u.out,λj b G=>u.keep j b (hh _ _ G)⟩
 .rcases U t with e|e
  .rw[e];exact(u.slots t).mono (λ_ h=>h) (λ_ _=>rfl) λm _=>I m
  .rw[e];exact .junk _
 .exact(u.hok.blk m b (hh m b G)).mono (λ_ h=>h) (λ_ _ h=>h) (λ_ _=>rfl) (λ_ _=>rfl) rfl rfl λm _=>I m
def aCg (P:Program) (nt:Nat) (ops:Array Oper):List Oper->Option (List aL)
 | []=>some []
 | o::r=>match nA P nt ops o,aCg P nt ops r with
  |some x,some l=>some (x::l)
  |_,_=>none
def bM (P:Program) (nt:Nat) (drawn:Nat->Array Oper->Option (List Nat)):Code->Option aF
 |.skip=>some .skip
 | .region _ ops draw=>match(if draw then drawn nt ops else some []) with
  |some fl=>(aCg P nt ops ops.toList).map λl=>.region l [] fl
  |none=>none
 | .seq x y=>match bM P nt drawn x,bM P nt drawn y with
  |some x,some y=>some (.seq x y)
  |_,_=>none
 | .cond c x y=>match bM P nt drawn x,bM P nt drawn y with
  |some x,some y=>some (.cond c x y)
  |_,_=>none
 |.block id x=>(bM P nt drawn x).map (.block id)
 |.loop x=>(bM P nt drawn x).map .loop
 |.exit id=>some (.exit id)
 |.ret=>some .ret
 |_=>none
def aF.bare:aF->aF
 |.region ops _ fl=>.region (ops.map aL.bare) [] fl
 |.seq x y=>.seq x.bare y.bare
 |.cond c x y=>.cond c x.bare y.bare
 |.block id x=>.block id x.bare
 |.loop x=>.loop x.bare
 |.closing _ x=>x.bare
 |.naming _ x=>x.bare
 |c=>c
theorem mZ {nt:Nat}{ops:Array Oper}:∀{l:List Oper}{r:List aL},aCg P nt ops l=some (r.map aL.bare)->l.length=r.length∧∀(j:Nat) (ao:aL),r[j]? = some ao->∃o,l[j]? = some o∧nA P nt ops o=some ao.bare
 | [],r,h=>by
  simp only[aCg,Aj] at h;have:r=[]:=by simpa using h.symm
  subst this;simp
 | o::l,r,h=>by
  simp only[aCg] at h;split at h
  .rename_i x H G h2;cases r with
   |nil=>simp at h
   | cons ao r =>
    simp only[AU,Aj,List.cons.injEq] at h;obtain⟨rfl,rfl⟩:=h;obtain⟨u,F⟩:=mZ h2
    all_goals grind
  .cases h
def aBz (fl:List Nat) (ops:List aL) (σ:St):Bool:=
 !fl.contains 3000000&&((fl.all λd=>σ.s.all λp=>!(p.1==d))&&ops.all λo=>match o.op,o.dst with
   |.call _ _ bor,some d=>bor.isEmpty||!fl.contains d||fl.contains (d+2000000)
   |.bsliceC ..,some d=>!fl.contains d
   |.load ..,some d=>!fl.contains (d+1000000)
   |.fieldAddr ..,some d=>!fl.contains (d+1000000)
   |_,_=>true)
def lL (P:Program) (drawn:Nat->Array Oper->Option (List Nat)):Prop:=
 ∀ (C:Ctx) (id:Nat) (ops:Array Oper) (aops:List aL) (fl:List Nat) (K:St->Prop) (Q:Exit->Act->World->Prop) (σ:St) (a:Act) (w:World) (S:Nat->Prop) (ρ:Name->Option Nat) (κ:Name->Nat),
  drawn C.nt ops=some fl->aCg P C.nt ops ops.toList=some (aops.map aL.bare)->aBz fl aops σ=true->(∀a w,dP C K a w->Q .normal a w)->vc P K aops σ->OK C σ.f a w S ρ κ->(Code.region id ops true).wp P Q a w
def oC (P:Program) (C:Ctx) (drawn:Nat->Array Oper->Option (List Nat)) (ac:aF) (N:St->Prop) (E:kT->St->Prop) (σ:St):Prop:=
 ∀ (c:Code) (Q:Exit->Act->World->Prop) (a:Act) (w:World) (S:Nat->Prop) (ρ:Name->Option Nat) (κ:Name->Nat),bM P C.nt drawn c=some ac.bare->
  (∀a w,dP C N a w->Q .normal a w)->(∀i a w,dP C (E (.exit i)) a w->Q (.exit i) a w)->(∀a w,dP C (E .ret) a w->Q .ret a w)->OK C σ.f a w S ρ κ->c.wp P Q a w
def RgK (b:Bool) (A X:Prop) (_:Tag (b,A,X)):Prop:=(b=true∧A)∨X
theorem RgK.mk {b:Bool}{A X:Prop}{t:Tag (b,A,X)} (u:b=true) (h2:A):RgK b A X t:=.inl ⟨u,h2⟩
theorem RgK.or {b:Bool}{A X:Prop}{t:Tag (b,A,X)} (h:X):RgK b A X t:=.inr h
def aO (P:Program) (C:Ctx) (drawn:Nat->Array Oper->Option (List Nat)) (c:aF) (N:St->Prop) (E:kT->St->Prop) (σ:St) (_:Tag (N,E)):Prop:=oC P C drawn (.loop c) N E σ
def wpc (P:Program) (C:Ctx) (drawn:Nat->Array Oper->Option (List Nat)):aF->(St->Prop)->(kT->St->Prop)->St->Prop
 |.skip,N,_,σ=>N σ
 | .region ops out fl,N,E,σ=>match fl with
  | []=>vc P (fun σ'=>N ⟨wT σ'.s out,σ'.h⟩) ops σ
  |d::r=>RgK (aBz (d::r) ops σ) (vc P (fun σ'=>N ⟨wT σ'.s out,σ'.h⟩) ops σ) (oC P C drawn (.region ops out (d::r)) N E σ) .x
 |.seq x y,N,E,σ=>wpc P C drawn x (wpc P C drawn y N E) E σ
 | .cond c x y,N,E,σ=>match evO (look σ.s) c with
  |.v (.bool b)=>Br b (wpc P C drawn x N E σ) (wpc P C drawn y N E σ) .x
  |_=>False
 | .block id x,N,E,σ=>wpc P C drawn x N (λe σ'=>match e with
   |.exit i=>(i=id->N σ')∧(i≠id->E (.exit i) σ')
   |.ret=>E .ret σ') σ
 |.loop x,N,E,σ=>aO P C drawn x N E σ .x
 |.exit id,_,E,σ=>E (.exit id) σ
 |.ret,_,E,σ=>E .ret σ
 |.closing t x,N,E,σ=>wpc P C drawn x (fun σ'=>aE4 t σ' N) E σ
 |.naming t x,N,E,σ=>wpc P C drawn x (fun σ'=>aHB t σ' N) E σ
theorem uE {I:Nat->Array Oper->Option (List Nat)} (hk:lL P I):∀(ac:aF) (N:St->Prop) (E:kT->St->Prop) (σ:St),wpc P C I ac N E σ->oC P C I ac N E σ:=by
 intro ac
 induction ac with
 | skip =>
  intro N E σ H c Q a w S ρ κ u J L M F;cases c<;>simp[bM,aF.bare] at u
  case skip=>exact wp_skip (J a w ⟨σ,S,ρ,κ,H,F⟩)
  all_goals(first|(split at u<;>simp at u)|skip)
 | region ops out fl =>
  intro N E σ H c Q a w S ρ κ u J L M F
  have H:(aBz fl ops σ=true∧vc P (fun σ'=>N ⟨wT σ'.s out,σ'.h⟩) ops σ)∨oC P C I (.region ops out fl) N E σ:=by
   cases fl with
   | nil =>
    refine .inl ⟨?_,H⟩;simp only[aBz,Dw,List.contains_nil,Cb,CX,Aw];intro o _;split<;>simp
   |cons d r=>exact H
  rcases H with H|H
  rotate_left
  .exact H c Q a w S ρ κ u J L M F
  have hd:∀a w,dP C (fun σ'=>N ⟨wT σ'.s out,σ'.h⟩) a w->Q .normal a w:=by
   rintro a w ⟨σ',S',ρ',κ',Y,G⟩;exact J a w ⟨_,S',ρ',κ',Y,G.less (aBu _ _) (λ_ _ h=>h)⟩
  cases c
  case region id cops draw =>
   simp only[bM,aF.bare] at u;split at u
   .rename_i hf he;cases ho:aCg P C.nt cops cops.toList with
    |none=>rw[ho] at u;cases u
    | some l =>
     rw[ho] at u;simp only[Ba,Aj,aF.region.injEq,Ci] at u;obtain⟨u,rfl⟩:=u;subst u;cases draw with
     | false =>
      obtain⟨g1,g2⟩:=mZ ho;refine wp_region ?_
      have:=aDY (P:=P) hd ops 0 (λj ao hj=>by
        obtain⟨o,q1,q2⟩:=g2 j ao hj;exact⟨o,by simpa using q1,q2⟩) σ a w S ρ κ H.2 F
      all_goals grind [List.range_eq_range']
     | true =>
      grind [lL]
   .cases u
  all_goals(simp only[bM,aF.bare] at u;first|(cases u;done)|(split at u<;>simp at u)|(simp at u))
 | seq x y ihx ihy =>
  intro N E σ H c Q a w S ρ κ u J L M F;cases c
  case seq cx cy =>
   simp only[bM,aF.bare] at u;split at u
   .rename_i x' y' U h2;simp only[Aj,aF.seq.injEq] at u;obtain⟨rfl,rfl⟩:=u;refine wp_seq (ihx _ _ _ H cx _ a w S ρ κ U (λa w O=>?_) L M F);obtain⟨σ',S',ρ',κ',Y,G⟩:=O;exact ihy _ _ _ Y cy Q a w S' ρ' κ' h2 J L M G
   .cases u
  all_goals(simp only[bM,aF.bare] at u;first|(cases u;done)|(split at u<;>simp at u)|(simp at u))
 | cond cc x y ihx ihy =>
  intro N E σ H c Q a w S ρ κ u J L M F;cases c
  case cond co cx cy =>
   simp only[bM,aF.bare] at u;split at u
   .rename_i x' y' U h2;simp only[Aj,aF.cond.injEq] at u;obtain⟨rfl,rfl,rfl⟩:=u;simp only[wpc] at H;split at H
    .rename_i b hb;have ha:=F.ev co;rw[show evO σ.f.s co=_ from hb] at ha;have Z:=dD ha;cases b
     .exact wp_cond_false Z (ihy _ _ _ (H.get.2 rfl) cy Q a w S ρ κ h2 J L M F)
     .exact wp_cond_true Z (ihx _ _ _ (H.get.1 rfl) cx Q a w S ρ κ U J L M F)
    .exact H.elim
   .cases u
  all_goals(simp only[bM,aF.bare] at u;first|(cases u;done)|(split at u<;>simp at u)|(simp at u))
 | block id x ih =>
  intro N E σ H c Q a w S ρ κ u J L M F;cases c
  case block cid cx =>
   simp only[bM,aF.bare] at u;cases U:bM P C.nt I cx with
   |none=>rw[U] at u;cases u
   | some x' =>
    rw[U] at u;simp only[Ba,Aj,aF.block.injEq] at u;obtain⟨rfl,rfl⟩:=u;refine wp_block (ih _ _ _ H cx _ a w S ρ κ U (λa w O=>J a w O) (λi a w O=>?_) (λa w O=>M a w O) F);obtain⟨σ',S',ρ',κ',Y,G⟩:=O;simp only[Exit.inBlock];by_cases hi:i=cid
    .rw[AY hi];exact J a w ⟨σ',S',ρ',κ',Y.1 hi,G⟩
    .rw[AJ hi];exact L i a w ⟨σ',S',ρ',κ',Y.2 hi,G⟩
  all_goals(simp only[bM,aF.bare] at u;first|(cases u;done)|(split at u<;>simp at u)|(simp at u))
 |loop x ih=>intro N E σ H;exact H
 | exit id =>
  intro N E σ H c Q a w S ρ κ u J L M F;cases c
  case exit cid =>
   simp only[bM,aF.bare,Aj,aF.exit.injEq] at u;subst u;exact wp_exit (L _ a w ⟨σ,S,ρ,κ,H,F⟩)
  all_goals(simp only[bM,aF.bare] at u;first|(cases u;done)|(split at u<;>simp at u)|(simp at u))
 | ret =>
  intro N E σ H c Q a w S ρ κ u J L M F;cases c
  case ret=>exact wp_ret (M a w ⟨σ,S,ρ,κ,H,F⟩)
  all_goals(simp only[bM,aF.bare] at u;first|(cases u;done)|(split at u<;>simp at u)|(simp at u))
 | closing t x ih =>
  intro N E σ H c Q a w S ρ κ u J L M F;refine ih _ _ _ H c Q a w S ρ κ u (λa' w' O=>?_) L M F;obtain⟨σ',S',ρ',κ',V,G⟩:=O;exact J a' w' (aGa V G)
 | naming t x ih =>
  intro N E σ H c Q a w S ρ κ u J L M F;refine ih _ _ _ H c Q a w S ρ κ u (λa' w' O=>?_) L M F;obtain⟨σ',S',ρ',κ',V,G⟩:=O;exact J a' w' (aGE V G)
def LeL (σ σ':St):Prop:=(∀p,p∈σ'.s->look σ.s p.1=p.2∨p.2=.junk)∧∀p,p∈σ'.h->aB σ.h p.1=some p.2
theorem OK.le {σ σ':St} (u:OK C σ.f a w S ρ κ) (h:LeL σ σ'):OK C σ'.f a w S ρ κ:=by
 refine u.less (λt=>?_) (λn b G=>h.2 _ (vE _ _ _ G))
 have F:∀(l:List (Nat×AV)),(∀p,p∈l->look σ.s p.1=p.2∨p.2=.junk)->look l t=look σ.s t∨look l t=.junk:=by
  intro l
  induction l with
  |nil=>intro _;exact .inr rfl
  | cons p r ih =>
   grind [look]
 exact F σ'.s h.1
theorem least (p:Nat->Prop) (h:∃n,p n):∃n,p n∧∀m,p m->n<=m:=by
 classical
 obtain⟨n,u⟩:=h
 induction n using Nat.strongRecOn with
 | ind n ih =>
  grind
theorem aO.intro {u:Nat->Array Oper->Option (List Nat)} (Y:lL P u) {X:Type} (F:X->St) (μ:X->Nat) (x0:X) {c:aF}{N:St->Prop}{E:kT->St->Prop}{σ:St}{tg:Tag (N,E)} (h0:LeL σ (F x0))
  (hr:∀x,wpc P C u c (fun σ'=>∃J,LeL σ' (F J)∧μ J<μ x) E (F x)):aO P C u c N E σ tg:=by
 show oC P C u (.loop c) N E σ
 intro M Q a w S ρ κ H hN hE hR ha;cases M
 case loop cx =>
  simp only[bM,aF.bare] at H;cases h1:bM P C.nt u cx with
  |none=>rw[h1] at H;cases H
  | some J =>
   rw[h1] at H;simp only[Ba,Aj,aF.loop.injEq] at H;subst H
   classical
   let G:Act->World->Prop:=λa w=>∃x S ρ κ,OK C (F x).f a w S ρ κ
   let m:Act->World->Nat:=λa w=>if h:∃n x,μ x=n∧∃S ρ κ,OK C (F x).f a w S ρ κ then(least _ h).choose else 0
   refine wp_loop G m ⟨x0,S,ρ,κ,ha.le h0⟩ ?_;rintro a w hG
   have O:∃n x,μ x=n∧∃S ρ κ,OK C (F x).f a w S ρ κ:=by
    grind
   obtain⟨x,hx,S,ρ,κ,V⟩:=(least _ O).choose_spec.1;have hm:m a w=μ x:=by simp only[m,dif_pos O];exact hx.symm
   refine uE Y c _ _ _ (hr x) cx _ a w S ρ κ h1 (λa' w' hg=>?_) hE hR V;obtain⟨σ',S',ρ',κ',⟨J,Z,hb⟩,U⟩:=hg;have I:=U.le Z;refine⟨⟨J,S',ρ',κ',I⟩,?_⟩;have L:∃n x,μ x=n∧∃S ρ κ,OK C (F x).f a' w' S ρ κ:=⟨μ J,J,rfl,S',ρ',κ',I⟩
   have:m a' w'<=μ J:=by
    simp only[m,dif_pos L];exact(least _ L).choose_spec.2 _ ⟨J,rfl,S',ρ',κ',I⟩
   omega
 all_goals(simp only[bM,aF.bare] at H;first|(cases H;done)|(split at H<;>simp at H)|(simp at H))
end
section
variable [Envs]
variable {P:Program}{C:Ctx}{a:Act}{w:World}{S:Nat->Prop}{ρ:Name->Option Nat}{κ:Name->Nat}{h:Name->Option Blk}
theorem aD4 (H:HOK S w ρ κ h) {S':Nat->Prop} (hS:∀b,S b->S' b) {E:List Name}{ρ':Name->Option Nat}{κ':Name->Nat}{h':Name->Option Blk}
  (Y:∀j n,E[j]? = some n->ρ' (.b j)=ρ n∧κ' (.b j)=κ n∧∀I,h' (.b j)=some I->∃b,h n=some b∧b.same I) {c:Bool}
  {cs G:List AV}{L:List Name}{vs:Array Value} (F:dF (conv h 8 E c) cs=some (G,L)) (Z:∀n,n∈L->∀y,ρ n=some y->S' y) (hr:∀j,j<cs.length->RV S w ρ κ h (cs.getD j .junk) (vs.getD j undef)) :
  ∀n,n∈L->n∉E∧(h n).isSome:=by
 intro n hn;obtain⟨j,M,Lj,J,U⟩:=aAY F n hn;obtain⟨O,u,V⟩:=(gX F).2 j M;rw[J] at u;simp only[Aj,AZ,Ci] at u;subst u;exact(vL H hS Y 8 c _ _ _ _ J (λm F=>Z m (V m F)) (hr j M)).2.2 n U
theorem aFY (H:HOK S w ρ κ h) {B:List Name} (hp:B.Nodup) {x y:AV}{v:Value}{hout:List Blk}{L1 L2:List Name} (hx:RV S w ρ κ h x v)
  (hc:conv h 8 B false x=some (y,L1)) (h0:vO h B B=some (hout,L2)) :
  ∃ (S':Nat->Prop) (ρ':Name->Option Nat) (κ':Name->Nat),HOK S' w ρ' κ' (Hn (hout.map some))∧RV S' w ρ' κ' (Hn (hout.map some)) y v∧(∀b,S b->S' b)∧
   (∀b,S' b->S b∨∃n,(h n).isSome∧ρ n=some b)∧(∀j z,(((hout.map some).getD j none).isSome)->ρ' (.b j)=some z->∃n,(h n).isSome∧ρ n=some z)∧
   ∀j n,B[j]? = some n->ρ' (.b j)=ρ n∧κ' (.b j)=κ n∧∀G,Hn (hout.map some) (.b j)=some G->∃b,h n=some b∧b.same G:=by
 obtain⟨h5,hd,hw⟩:=wN _ _ h0
 let L:=L1++L2
 let S1:Nat->Prop:=λy=>S y∨∃n,n∈L∧ρ n=some y
 let ρ0:Name->Option Nat:=λm=>match m with|.b j=>(B[j]?).bind ρ|.t _ _=>none
 let κ0:Name->Nat:=λm=>match m with|.b j=>((B[j]?).map κ).getD 0|.t _ _=>0
 have U:∀y,S y->S1 y:=λy hy=>.inl hy;have hk:∀n,n∈L1->n∈L:=λn O=>BV _ O;have hl:∀n,n∈L2->n∈L:=λn O=>Df _ O
 have hE:∀j n,B[j]? = some n->ρ0 (.b j)=ρ n∧κ0 (.b j)=κ n∧∀G,Hn (hout.map some) (.b j)=some G->∃b,h n=some b∧b.same G:=by
  intro j n M;refine⟨by simp[ρ0,M],by simp[κ0,M],λG J=>?_⟩;obtain⟨b,b2,Lj,I,u,g3,_,_⟩:=hd j n M
  have:G=b2:=by
   grind [Hn]
  subst this;refine⟨b,I,?_⟩;cases b with
  | var c z =>
   simp only[fU] at u;cases F:dF (conv h 8 B false) c with
   |none=>rw[F] at u;cases u
   | some p =>
    rw[F] at u;simp only[Ba,Aj,AZ] at u;rw[←u.1];exact((gX F).1).symm
  | arr k l z =>
   grind [fU,Blk.same_refl]
 have ha:∀m,m∈L->∀y,ρ m=some y->S1 y:=λm F y hy=>.inr ⟨m,F,hy⟩;have Y:=vL H U (κ':=κ0) hE 8
 have he:∀n,n∈L->n∉B∧(h n).isSome:=by
  intro n O;rcases Be.1 O with O|O
  .exact(Y false _ _ _ _ hc (λm F=>ha m (hk m F)) hx).2.2 n O
  .obtain⟨n',b,G,Lj,I,u,g3,g4⟩:=hw n O;cases b with
   | arr k l z =>
    grind [fU]
   | var c z =>
    simp only[fU] at g3;cases F:dF (conv h 8 B false) c with
    |none=>rw[F] at g3;cases g3
    | some p =>
     obtain⟨c',Lp⟩:=p;rw[F] at g3;simp only[Ba,Aj,AZ] at g3;obtain⟨_,rfl⟩:=g3;obtain⟨x,cs,T,fr,q1,q2,q3,q4,_,q5,q6,q7⟩:=H.blk n' _ u;obtain⟨i,hi⟩:=BM.1 I;obtain⟨b1,b2,Lb,p1,p2,p3,p4,p5⟩:=hd i n' hi;rw[u] at p1;obtain rfl:=Av p1;simp only[fU,F,Ba,Aj,AZ] at p2;obtain⟨_,rfl⟩:=p2;exact aD4 H U (κ':=κ0) hE F (λm F=>ha m (hl m (p5 m F))) (λj M=>(q7 j M).2) n g4
 have ht:∀n b,n∈B->h n=some b->b.fz=false->∀x,ρ n=some x->¬S1 x:=by
  rintro n b O hb V x hx (hs|⟨m,F,hmx⟩)
  .have:=H.blk n b hb;cases b with
   | var c z =>
    obtain⟨y,_,_,_,I,_,_,u,_⟩:=this;obtain rfl:=Av (hx.symm.trans I);exact u V hs
   | arr k l z =>
    obtain⟨_,⟨I,_⟩|⟨y,_,_,_,I,_,_,u,_⟩⟩:=this
    .rw[hx] at I;cases I
    .obtain rfl:=Av (hx.symm.trans I);exact u V hs
  all_goals grind [HOK]
 have Z:∀j G,Hn (hout.map some) (.b j)=some G->∃n b Lj,B[j]? = some n∧h n=some b∧fU h B b=some (G,Lj)∧(∀m,m∈Lj->m∈L2)∧G.fz=false:=by
  intro j G J
  have M:j<B.length:=by
   grind [Hn]
  obtain⟨b,b2,Lj,I,u,g3,g4,g5⟩:=hd j B[j] (by simp[M])
  have:G=b2:=by
   grind [Hn]
  subst this;exact⟨B[j],b,Lj,by simp[M],I,u,g5,g4⟩
 have hq:HOK S1 w ρ0 κ0 (Hn (hout.map some)):=by
  refine⟨λm G J=>?_,λm m' x h1 h2 h3 h4=>?_,?_,H.env.mono U λ_ _=>rfl⟩
  .cases m with
   |t=>simp[Hn] at J
   | b j =>
    obtain⟨n,b,Lj,g0,I,u,g5,g4⟩:=Z j G J;obtain⟨e1,e2,_⟩:=hE j n g0;have hb:=H.blk n b I;have ho:=ht n b (BU g0) I;cases b with
    | var c z =>
     simp only[fU] at u;cases F:dF (conv h 8 B false) c with
     |none=>rw[F] at u;cases u
     | some p =>
      obtain⟨c',Lp⟩:=p;rw[F] at u;simp only[Ba,Aj,AZ] at u;obtain⟨rfl,rfl⟩:=u;obtain⟨x,cs,T,fr,q1,q2,q3,q4,hf,q5,q6,q7⟩:=hb;obtain⟨l1,l2⟩:=gX F;refine⟨x,cs,T,fr,by rw[e1];exact q1,q2,q3,λV=>ho V x q1,λV=>.inl (hf V),by rw[e2];exact q5,by omega,λi hi=>⟨(q7 i (by omega)).1,?_⟩⟩;obtain⟨Li,l3,l4⟩:=l2 i (by omega);exact(Y false _ _ _ _ l3 (λm F=>ha m (hl m (g5 m (l4 m F)))) (q7 i (by omega)).2).1 rfl
    | arr k l z =>
     simp only[fU,Aj,AZ] at u;obtain⟨rfl,rfl⟩:=u;obtain⟨q0,⟨q1,q2⟩|⟨x,cs,T,fr,q1,q2,q3,q4,hf,q5,q6,q7⟩⟩:=hb
     .exact⟨q0,.inl ⟨by rw[e1];exact q1,q2⟩⟩
     .exact⟨q0,.inr ⟨x,cs,T,fr,by rw[e1];exact q1,q2,q3,λV=>ho V x q1,λV=>.inl (hf V),by rw[e2];exact q5,q6,λi j hi M=>⟨(q7 i j hi M).1,(q7 i j hi M).2.mono U λ_ _=>rfl⟩⟩⟩
  .cases m with
   |t=>simp[Hn] at h1
   | b j =>
    cases m' with
    |t=>simp[Hn] at h2
    | b j' =>
     obtain⟨b1,hu⟩:=AQ.1 h1;obtain⟨b2,hv⟩:=AQ.1 h2;obtain⟨n,b,_,g0,I,_⟩:=Z j b1 hu;obtain⟨n',G,_,hg,hr,_⟩:=Z j' b2 hv;rw[(hE j n g0).1] at h3;rw[(hE j' n' hg).1] at h4;obtain rfl:=H.inj n n' x (by simp[I]) (by simp[hr]) h3 h4;congr 1;have e1:=pU hp g0;have e2:=pU hp hg;rw[e1] at e2;exact Av e2
  .rintro y (hy|⟨n,O,hy⟩)
   .exact H.dom y hy
   .exact H.lt (he n O).2 hy
 refine⟨S1,ρ0,κ0,hq,(Y false _ _ _ _ hc (λm F=>ha m (hk m F)) hx).1 rfl,U,?_,?_,hE⟩
 .grind
 .intro j z M V;obtain⟨G,J⟩:=AQ.1 M;obtain⟨n,b,_,g0,I,_⟩:=Z j G J
  all_goals grind
/-! ## what a function hands back -/
def aIo (P:Program) (σ:St) (K:AV->Prop):ResultVar->Prop
 |.tmp t=>K (look σ.s t)
 | .cell A T=>match tY P T with
  |some (g,k)=>rd (evO (look σ.s)) (aB σ.h) K (.load g k (.tmp A))
  |none=>False
def aCN (P:Program) (σ:St) (K:List AV->Prop):List ResultVar->Prop
 | []=>K []
 |r::rs=>aIo P σ (λx=>aCN P σ (λxs=>K (x::xs)) rs) r
def aCX:List AV->AV
 | [x]=>x
 |l=>.tup l
def aAQ (P:Program) (rs:List ResultVar) (B:List Name) (r:AV) (hout:List Blk) (σ:St):Prop:=
 aCN P σ (λxs=>∃L1 L2,conv (aB σ.h) 8 B false (aCX xs)=some (r,L1)∧vO (aB σ.h) B B=some (hout,L2)) rs
def aGy (tmps:Array Value):ResultVar->Sem Value
 |.tmp t=>pure (tmps.getD t undef)
 |.cell A T=>do loadVar T (←asAddr (tmps.getD A undef))
theorem aJA {σ:St}{K:AV->Prop} (G:OK C σ.f a w S ρ κ) {r:ResultVar} (h:aIo P σ K r) :
  ∃x v,K x∧RV S w ρ κ σ.f.h x v∧(aGy a.tmps r).run P w=.ok v w:=by
 cases r with
 |tmp t=>exact⟨_,_,h,G.slots t,by simp[aGy]⟩
 | cell A T =>
  simp only[aIo] at h;split at h
  .rename_i g k L;obtain⟨x,v,I,F,O⟩:=aHq G L h;refine⟨x,v,I,O,?_⟩;simp only[aGy];have e:a.eval (.tmp A)=a.tmps.getD A undef:=rfl;rw[e] at F;simp only[Instr.loadAt,Sem.run_bind] at F;simp only[rd] at h;have u:=G.ev (.tmp A);rw[e] at u;generalize a.tmps.getD A undef=va at u F⊢;split at h
   .rename_i c H;rw[show evO σ.f.s (.tmp A)=_ from H] at u;cases wG u with
    | ro _ b off xs _ _ _ _ =>
     grind [Sem.run_bind,asAddr,Instr.sureAddr,Sem.run_pure]
   .rename_i n U c H;rw[show evO σ.f.s (.tmp A)=_ from H] at u;split at h
    .rename_i b J;obtain⟨y,V,M⟩:=eG u b J
     all_goals grind [Sem.run_bind,asAddr,Instr.sureAddr,Sem.run_pure]
    .exact h.elim
   .exact h.elim
  .exact h.elim
theorem aFk {σ:St} (u:OK C σ.f a w S ρ κ):∀{rs:List ResultVar}{K:List AV->Prop},aCN P σ K rs->
  ∃ xs vs,K xs∧vs.length=xs.length∧(∀j,j<xs.length->RV S w ρ κ σ.f.h (xs.getD j .junk) (vs.getD j undef))∧
   (rs.mapM (aGy a.tmps)).run P w=.ok vs w
 | [],K,h=>⟨[],[],h,rfl,by simp,by simp⟩
 | r::rs,K,h=>by
  obtain⟨x,v,F,h2,I⟩:=aJA u h;obtain⟨xs,vs,G,H,J,L⟩:=aFk u F;refine⟨x::xs,v::vs,G,by simp[H],λj M=>?_,?_⟩
  all_goals grind [Sem.run_bind,Result.andThen_ok,Sem.run_pure,AV,aCN]
theorem aCm {σ:St} (F:OK C σ.f a w S ρ κ) {fn:Func}{K:AV->Prop} (h:aCN P σ (λxs=>K (aCX xs)) fn.results.toList) :
  ∃x v,K x∧RV S w ρ κ σ.f.h x v∧(results fn a.tmps).run P w=.ok v w:=by
 obtain⟨xs,vs,G,h2,u,H⟩:=aFk F h
 have L:(results fn a.tmps).run P w=.ok (if h:vs.toArray.size=1 then vs.toArray[0] else .tuple vs.toArray) w:=by
  have J:fn.results.mapM (aGy a.tmps)=(do pure (←fn.results.toList.mapM (aGy a.tmps)).toArray):=by
   rw[←Array.toArray_toList (xs:=fn.results),List.mapM_toArray];rfl
  change (do let vs ←fn.results.mapM (aGy a.tmps);pure (if h:vs.size=1 then vs[0] else .tuple vs):Sem Value).run P w=_
  rw[J];simp only[Sem.run_bind,H,Result.andThen_ok,Sem.run_pure]
 refine⟨_,_,G,?_,L⟩
 match xs,vs,h2,u with
 | [x],[v],_,u=>simpa[aCX] using u 0 (by simp)
 | [],[],_,u=>exact .tup _ _ rfl (by simp)
 |x::x'::r,v::v'::r',h2,u=>exact .tup _ _ (by simpa using h2.symm) λj I=>by simpa using u j I
def ini:Nat->List AV->List (Nat×AV)
 |_,[]=>[]
 |i,x::r=>(i,x)::ini (i+1) r
theorem aAZ:∀(l:List AV) (i t:Nat),look (ini i l) t=if i<=t∧t<i+l.length then l.getD (t-i) .junk else .junk
 | [],i,t=>by simp[ini,look]
 | x::r,i,t=>by
  simp only[ini,look,aAZ r (i+1) t,Aa]
  all_goals grind
def xW:Nat->List Blk->List (Name×Blk)
 |_,[]=>[]
 |i,b::r=>(.b i,b)::xW (i+1) r
theorem aA5 (d j:Nat):∀(l:List Blk) (i:Nat),aB (xW i l) (.t d j)=none
 | [],i=>rfl
 |b::r,i=>by simp[xW,aB,aA5 d j r]
theorem aA6 (j:Nat):∀(l:List Blk) (i:Nat),aB (xW i l) (.b j)=if i<=j then l[j-i]? else none
 | [],i=>by simp[xW,aB]
 | b::r,i=>by
  simp only[xW,aB,Name.b.injEq,aA6 j r]
  all_goals grind
theorem fI (l:List Blk):aB (xW 0 l)=Hn (l.map some):=by
 funext n
 cases n with
 |t d j=>rw[aA5];rfl
 | b j =>
  grind [aA6,Hn]
theorem Fn.intro {u:Nat->Array Oper->Option (List Nat)}{f:FuncId}{fn:Func} (U:lL P u) {F:Code}{ac:aF}{hin:List Blk}{args:List AV}{r:AV}{hout:List Blk} (B:List Name)
  (hf:P.funcs[f]? = some fn) (G:fn.body=some F) (J:fn.name≠"runtime.NumGoroutine") (hc:bM P fn.ntmps u F=some ac.bare) (he:args.length<=fn.ntmps) (ha:B.Nodup)
  (hB:∀j,j<hin.length->B[j]? = some (.b j))
  (hw:∀C:Ctx,C.nt=fn.ntmps->wpc P C u ac (aAQ P fn.results.toList B r hout) (λe σ=>match e with|.ret=>aAQ P fn.results.toList B r hout σ|.exit _=>False) ⟨ini 0 args,xW 0 hin⟩) :
  Fn P f hin args r (hout.map some):=by
 refine⟨⟨fn,F,hf,G,J⟩,?_⟩;intro S w ρ κ vs hd _ hk I
 let C:Ctx:={nt:=fn.ntmps,w0:=w,S0:=S,Mut:=sO ρ hin,ρ0:=λj=>ρ (.b j),κ0:=λj=>κ (.b j),h0:=λj=>hin[j]?}
 have hC:=hw C rfl;refine calls_of_wp hf G ?_
 have H:∀a w',dP C (aAQ P fn.results.toList B r hout) a w'->a.defers=[]∧∃v,(results fn a.tmps).run P w'=.ok v w'∧
   ∃v2 S' ρ' κ',Ending.returned v=.returned v2∧Post S w ρ κ hin S' w' ρ' κ' (hout.map some)∧RV S' w' ρ' κ' (Hn (hout.map some)) r v2:=by
  rintro a w' ⟨σ,S1,ρ1,κ1,hK,hok1⟩;refine⟨hok1.defers,?_⟩;obtain⟨x,v,⟨L1,L2,L,h2⟩,h3,h4⟩:=aCm hok1 (K:=λx=>∃L1 L2,conv (aB σ.h) 8 B false x=some (r,L1)∧vO (aB σ.h) B B=some (hout,L2)) hK;refine⟨v,h4,v,?_⟩;obtain⟨S',ρ',κ',g1,g2,g3,g4,g5,g6⟩:=aFY hok1.hok ha h3 L h2;refine⟨S',ρ',κ',rfl,⟨g1,hok1.size,λb G hm=>hok1.old b G hm,λb G=>g3 b (hok1.S0 b G),λb G=>?_,λj z M hz=>?_,hok1.out,λj b' M Y=>?_⟩,g2⟩
  .rcases g4 b G with h|⟨n,Z,h⟩
   .exact hok1.Snew b h
   .exact .inr (hok1.mine n b Z h)
  .obtain⟨n,Z,h⟩:=g5 j z M hz;exact hok1.mine n z Z h
  .obtain⟨e1,e2,e3⟩:=g6 j (.b j) (hB j M);obtain⟨b,h5,h6⟩:=e3 b' Y;obtain⟨e4,e5,b0,h7,h8⟩:=hok1.keep j b h5
   all_goals grind [Blk.same_trans]
 refine uE U ac _ _ _ hC F _ _ w S ρ κ hc (λa w' V=>H a w' V) (λi a w' ⟨_,_,_,_,h,_⟩=>h.elim) (λa w' V=>H a w' V) ?_
 have O:∀n,((Hn (hin.map some)) n).isSome->∃j,j<hin.length∧n=.b j:=by
  grind [Hn,Name]
 refine⟨?_,rfl,λt=>?_,by simp only[St.f,fI];exact hd,AL _,λ_ _ _=>rfl,λn x L h2=>?_,λ_ h=>h,λb G=>.inl G,⟨rfl,rfl⟩,λj b G=>?_⟩
 .simp only[C,Array.size_append,Array.size_replicate];omega
 .simp only[St.f,aAZ,BX,Ci,BF,Nat.sub_zero,fI];split
  .rename_i ht
   have e:(vs++Array.replicate (fn.ntmps-vs.size) undef).getD t undef=vs.getD t undef:=by
    have L:t<vs.size:=by omega
    simp[CG,L]
   rw[e];exact I t ht
  .exact .junk _
 .simp only[St.f,fI] at L;obtain⟨j,M,rfl⟩:=O n L;exact .inr ⟨j,M,h2⟩
 .simp only[St.f,fI] at G;refine⟨rfl,rfl,b,?_,b.same_refl⟩
  all_goals grind [Hn]
theorem lL.none:lL P (λ_ _=>.none):=by
 grind [lL]
end
section
variable [Envs]
def wE:AOp->Bool
 |.box _|.alloc _|.bslice .. | .mk .. | .call .. | .store .. | .append .. | .appendC .. | .bsliceC .. | .clr ..=>false
 |_=>true
end
section
variable [Envs]
def aN:AOp->List Operand
 |.mv x=>[x]
 |.pick c a b=>[c,a,b]
 |.load _ _ a=>[a]
 |.fieldAddr _ x=>[x]
 |.loadV _ _ a=>[a]
 |.fieldV _ x=>[x]
 |.field _ _ _ x=>[x]
 |.idxSl _ x i=>[x,i]
 |.idxArr _ _ x i=>[x,i]
 |.idxAgg _ _ _ x i=>[x,i]
 |.idxStr x i=>[x,i]
 |.bin _ x y=>[x,y]
 |.binS _ x y=>[x,y]
 |.binB _ x y=>[x,y]
 |.un _ x=>[x]
 |.conv _ x=>[x]
 |.b2s x=>[x]
 |.eqA _ _ x y=>[x,y]
 |.idxB x y=>[x,y]
 |.len x=>[x]
 |.lenS x=>[x]
 |.lenC _=>[]
 |.slc _ x a b=>x::(a.toList++b.toList)
 |.sstr x a b=>x::(a.toList++b.toList)
 |.nilc x=>[x]
 |.extract x _=>[x]
 |.build _ ps=>ps.map λp=>p.2.2
 |.mkfn _ cs=>cs
 |.mm _ x y=>[x,y]
 |.box x=>[x]
 |.alloc _=>[]
 |.bslice _ _ _ ps=>ps.map λp=>p.2
 |.mk _ _ _ n=>[n]
 |.call f a _=>f::a
 |.store _ a x=>[a,x]
 |.append _ _ a x=>[a,x]
 |.appendC _ _ a x=>[a,x]
 |.bsliceC _ _ _ ps=>ps.map λp=>p.2
 |.clr _ _ x=>[x]
def Agr (N:Name->Prop) (h h':Name->Option Blk):Prop:=∀n,¬N n->(h n).map frz=(h' n).map frz
def Off (N:Name->Prop) (x:AV):Prop:=∀n,N n->x.has n=false
def dZ (N:Name->Prop) (c:List AV):Prop:=∀n,N n->lJ n c=false
def aDG (N:Name->Prop) (b:Blk):Prop:=∀n,N n->b.has n=false
variable {N:Name->Prop}{h h':Name->Option Blk}{ev ev':Operand->AV}
theorem Agr.symm (u:Agr N h h'):Agr N h' h:=λn F=>(u n F).symm
theorem Agr.none (u:Agr N h h') {n:Name} (F:¬N n) (hh:h n=none):h' n=none:=by
 have:=u n F;rw[hh] at this;cases hx:h' n with
 |none=>rfl
 |some b=>rw[hx] at this;simp at this
theorem Agr.some (F:Agr N h h') {n:Name} (G:¬N n) {b:Blk} (hh:h n=some b):∃u,h' n=some u∧frz u=frz b:=by
 have:=F n G;rw[hh] at this;cases hx:h' n with
 |none=>rw[hx] at this;simp at this
 |some u=>rw[hx] at this;simp at this;exact⟨u,rfl,this.symm⟩
theorem aLO {b u:Blk} (F:frz u=frz b) (e:Nat):u.row e=b.row e:=by
 cases b<;>cases u<;>simp[frz] at F<;>simp[Blk.row,F];cases e<;>simp[Blk.row,F]
theorem zQ {b:Blk}{k:Nat}{l:List (List AV)}{z:Bool} (F:frz b=frz (.arr k l z)):∃u,b=.arr k l u:=by
 grind [frz,Blk]
theorem aCy {b:Blk}{c:List AV}{z:Bool} (F:frz b=frz (.var c z)):∃u,b=.var c u:=by
 grind [frz,Blk]
theorem aLP {b u:Blk} (F:frz u=frz b) (n:Name):u.has n=b.has n:=by
 grind [frz,Blk.has,Blk]
theorem Off.ptr {n:Name}{e c:Nat} (F:Off N (.ptr n e c)):¬N n:=λu=>by simpa[AV.has] using F n u
theorem Off.loc {n:Name}{e c:Nat} (F:Off N (.loc n e c)):¬N n:=λu=>by simpa[AV.has] using F n u
theorem Off.agg {c:List AV} (F:Off N (.agg c)):dZ N c:=λn u=>by simpa[AV.has] using F n u
theorem Off.tup {c:List AV} (F:Off N (.tup c)):dZ N c:=λn u=>by simpa[AV.has] using F n u
theorem Off.fn {f:FuncId}{c:List AV} (F:Off N (.fn f c)):dZ N c:=λn u=>by simpa[AV.has] using F n u
theorem dZ.cons {x:AV}{c:List AV} (F:dZ N (x::c)):Off N x∧dZ N c:=
 ⟨λn u=>by have:=F n u;simp[lJ] at this;exact this.1,λn u=>by have:=F n u;simp[lJ] at this;exact this.2⟩
theorem dZ.mk_cons {x:AV}{c:List AV} (G:Off N x) (F:dZ N c):dZ N (x::c):=λn u=>by simp[lJ,G n u,F n u]
theorem dZ.nil:dZ N []:=λ_ _=>rfl
theorem dZ.mem:∀{c:List AV},dZ N c->∀x,x∈c->Off N x
 | [],_,x,hx=>by cases hx
 | y::r,ho,x,hx=>by
  rcases Ay.1 hx with rfl|hx
  .exact ho.cons.1
  .exact dZ.mem ho.cons.2 x hx
theorem dZ.of_mem:∀{c:List AV},(∀x,x∈c->Off N x)->dZ N c
 | [],_=>dZ.nil
 |_::_,h=>dZ.mk_cons (h _ (by simp)) (dZ.of_mem λx u=>h x (by simp[u]))
theorem dZ.getD {c:List AV} (F:dZ N c) (j:Nat):Off N (c.getD j .junk):=λn u=>qY (F n u)
theorem dZ.drop {c:List AV} (u:dZ N c) (j:Nat):dZ N (c.drop j):=dZ.of_mem λx F=>u.mem x (CU F)
theorem dZ.take {c:List AV} (u:dZ N c) (j:Nat):dZ N (c.take j):=dZ.of_mem λx F=>u.mem x (CQ F)
theorem Off.v (x:Value):Off N (.v x):=λ_ _=>rfl
theorem Off.junk:Off N .junk:=λ_ _=>rfl
theorem Off.sl (k:Nat) (l:List (List AV)):Off N (.sl k l):=λ_ _=>rfl
theorem Off.ro (c:List AV):Off N (.ro c):=λ_ _=>rfl
theorem Off.mk_agg {c:List AV} (F:dZ N c):Off N (.agg c):=λn u=>by simpa[AV.has] using F n u
theorem Off.mk_fn {f:FuncId}{c:List AV} (F:dZ N c):Off N (.fn f c):=λn u=>by simpa[AV.has] using F n u
theorem Off.mk_tup {c:List AV} (F:dZ N c):Off N (.tup c):=λn u=>by simpa[AV.has] using F n u
theorem Off.mk_ptr {n:Name}{e c:Nat} (F:¬N n):Off N (.ptr n e c):=λm u=>by
 grind [AV.has]
theorem Off.mk_loc {n:Name}{e c:Nat} (F:¬N n):Off N (.loc n e c):=λm u=>by
 grind [AV.has]
theorem aCY (F:Agr N h h') {x:AV} (G:Off N x):rQ h x=rQ h' x:=by
 cases x<;>try rfl
 case loc n off len =>
  simp only[rQ];cases hx:h n with
  |none=>rw[F.none G.loc hx]
  | some b =>
   obtain⟨H,u,e⟩:=F.some G.loc hx;rw[u];cases b<;>cases H<;>simp[frz] at e<;>rfl
 case ptr n e c =>
  simp only[rQ];cases hx:h n with
  |none=>rw[F.none G.ptr hx]
  | some b =>
   obtain⟨H,u,e⟩:=F.some G.ptr hx;rw[u];rfl
theorem aBK {p q:AV->Bool}:∀{c:List AV},(∀x,x∈c->p x=q x)->c.all p=c.all q
 | [],_=>rfl
 |x::r,h=>by simp only[BO,h x (by simp),aBK (c:=r) λy u=>h y (by simp[u])]
theorem aDy (u:Agr N h h') {x:AV} (F:Off N x):kR h x=kR h' x:=by
 cases x
 case agg c =>
  simp only[kR];rw[aBK (q:=rQ h') λx G=>aCY u (F.agg.mem x G)]
 all_goals simp only[kR,aCY u F]
theorem aG0 {x:AV} (F:Off N x) {c:List AV} (u:kR h x=some c):dZ N c:=by
 cases x
 case agg c' =>
  simp only[kR] at u;split at u
  .obtain rfl:=Av u;exact F.agg
  .cases u
 all_goals grind [kR,dZ.mk_cons,dZ.nil]
theorem aAp (H:Agr N h h'):∀{u:List (Nat×Nat×Operand)}{cs:List AV}{K:List AV->Prop},(∀p,p∈u->ev p.2.2=ev' p.2.2∧Off N (ev p.2.2))->layAll ev h cs u K->layAll ev' h' cs u K
 | [],_,_,_,hk=>hk
 | (o,n,x)::r,cs,K,he,hk=>by
  obtain⟨F,G⟩:=he (o,n,x) (by simp);simp only at F G;simp only[layAll] at hk⊢;rw[←F,←aDy H G];split at hk
  .exact⟨hk.1,aAp H (λp I=>he p (by simp[I])) hk.2⟩
  .exact hk
theorem xQ:∀{F:List (Nat×Nat×Operand)}{cs:List AV}{K u:List AV->Prop},(∀c,K c->u c)->layAll ev h cs F K->layAll ev h cs F u
 | [],_,_,_,hh,hk=>hh _ hk
 | (o,n,x)::r,cs,K,u,hh,hk=>by
  simp only[layAll] at hk⊢;split at hk
  .exact⟨hk.1,xQ hh hk.2⟩
  .exact hk
theorem vY:∀{u:List (Nat×Nat×Operand)}{cs:List AV}{K:List AV->Prop},layAll ev h cs u K->∃c,K c∧layAll ev h cs u (λF=>F=c)
 | [],cs,_,hk=>⟨cs,hk,rfl⟩
 | (o,n,x)::r,cs,K,hk=>by
  simp only[layAll] at hk⊢;split at hk
  .obtain⟨c,G,h2⟩:=vY hk.2;exact⟨c,G,hk.1,h2⟩
  .exact hk.elim
end
section
variable [Envs]
variable {N:Name->Prop}{h h':Name->Option Blk}{ev ev':Operand->AV}
theorem aIn (u:Agr N h h') {k:Nat}{x:AV} (F:Off N x):pJ k h x=pJ k h' x:=by
 cases x<;>try rfl
 case v x=>unfold pJ;split<;>first|rfl|simp_all
 case loc n off len =>
  simp only[pJ];cases hx:h n with
  |none=>rw[u.none F.loc hx]
  | some b =>
   obtain⟨H,G,e⟩:=u.some F.loc hx
   all_goals grind [zQ]
theorem aMH (M:Agr N h h') {op:AOp}{K:AV->Prop} (F:∀o,o∈aN op->ev o=ev' o∧Off N (ev o)) (u:rd ev h K op):rd ev' h' K op:=by
 cases op
 case mv x=>simpa only[rd,(F x (by simp[aN])).1] using u
 case pick c a b =>
  simp only[rd] at u⊢
  all_goals grind [aN]
 case load g k a =>
  have⟨I,G⟩:=F a (by simp[aN]);simp only[rd,←I] at u⊢;split at u
  .exact u
  .rename_i n e c L;rw[L] at G;split at u
   .rename_i b J;obtain⟨U,H,O⟩:=M.some G.ptr J;simp only[H,aLO O];exact u
   .exact u.elim
  .exact u.elim
 case fieldAddr off x =>
  have⟨I,G⟩:=F x (by simp[aN]);simp only[rd,←I] at u⊢;split at u
  .rename_i n e c L;rw[L] at G;split at u
   .rename_i b J;obtain⟨U,H,O⟩:=M.some G.ptr J;simp only[H];exact u
   .exact u.elim
  .exact u
  .exact u.elim
 case loadV g k a =>
  have⟨I,G⟩:=F a (by simp[aN]);simp only[rd,←I] at u⊢;split at u
  .rename_i n e c L;rw[L] at G;split at u
   .rename_i cs z J;obtain⟨U,H,O⟩:=M.some G.ptr J;obtain⟨z',rfl⟩:=aCy O;simp only[H];have er:(Blk.var cs z').row e=(Blk.var cs z).row e:=by cases e<;>rfl
    rw[er];exact u
   .exact u.elim
  .exact u.elim
 case fieldV off x =>
  have⟨I,G⟩:=F x (by simp[aN]);simp only[rd,←I] at u⊢;split at u
  .rename_i n e c L;rw[L] at G;split at u
   .rename_i cs z J;obtain⟨U,H,O⟩:=M.some G.ptr J
    all_goals grind [aCy]
   .exact u.elim
  .exact u.elim
 case field g off k x=>simpa only[rd,(F x (by simp[aN])).1] using u
 case idxSl k x i =>
  have⟨I,G⟩:=F x (by simp[aN]);have⟨V,_⟩:=F i (by simp[aN]);simp only[rd,←I,←V] at u⊢;split at u
  .exact u
  .rename_i n off len kk i' L hi;rw[L] at G;split at u
   .rename_i Z l z J;obtain⟨U,H,O⟩:=M.some G.loc J
    all_goals grind [zQ]
   .exact u.elim
  .exact u.elim
 case idxArr n k x i =>
  have⟨I,G⟩:=F x (by simp[aN]);have⟨V,_⟩:=F i (by simp[aN]);simp only[rd,←I,←V] at u⊢;split at u
  .exact u
  .rename_i m e c kk i' L hi;rw[L] at G;split at u
   .rename_i b J;obtain⟨U,H,O⟩:=M.some G.ptr J;simp only[H];exact u
   .exact u.elim
  .exact u.elim
 case idxAgg g n k x i=>simpa only[rd,(F x (by simp[aN])).1,(F i (by simp[aN])).1] using u
 case idxStr x i=>simpa only[rd,(F x (by simp[aN])).1,(F i (by simp[aN])).1] using u
 case bin o x y=>simpa only[rd,(F x (by simp[aN])).1,(F y (by simp[aN])).1] using u
 case binS o x y=>simpa only[rd,(F x (by simp[aN])).1,(F y (by simp[aN])).1] using u
 case binB o x y=>simpa only[rd,(F x (by simp[aN])).1,(F y (by simp[aN])).1] using u
 case un o x=>simpa only[rd,(F x (by simp[aN])).1] using u
 case conv k x=>simpa only[rd,(F x (by simp[aN])).1] using u
 case len x =>
  have⟨I,G⟩:=F x (by simp[aN]);simp only[rd,←I] at u⊢;split at u
  .exact u
  .rename_i n off len L;rw[L] at G;split at u
   .rename_i Z l z J;obtain⟨U,H,O⟩:=M.some G.loc J
    all_goals grind [zQ]
   .exact u.elim
  .exact u
  .exact u.elim
 case lenS x=>simpa only[rd,(F x (by simp[aN])).1] using u
 case lenC n=>exact u
 case slc k x lo hi =>
  have⟨I,G⟩:=F x (by simp[aN])
  have V:lo.map ev=lo.map ev':=by
   cases lo with
   |none=>rfl
   |some o=>simp[(F o (by simp[aN])).1]
  have Y:hi.map ev=hi.map ev':=by
   cases hi with
   |none=>rfl
   |some o=>simp[(F o (by simp[aN])).1]
  simp only[rd,←I,←V,←Y] at u⊢;split at u
  .exact u
  .rename_i n off len L;rw[L] at G;split at u
   .rename_i Z l z J;obtain⟨U,H,O⟩:=M.some G.loc J
    all_goals grind [zQ]
   .exact u.elim
  .exact u.elim
 case sstr x lo hi =>
  have⟨I,G⟩:=F x (by simp[aN])
  have V:lo.map ev=lo.map ev':=by
   cases lo with
   |none=>rfl
   |some o=>simp[(F o (by simp[aN])).1]
  have Y:hi.map ev=hi.map ev':=by
   cases hi with
   |none=>rfl
   |some o=>simp[(F o (by simp[aN])).1]
  simpa only[rd,←I,←V,←Y] using u
 case nilc x =>
  have⟨I,G⟩:=F x (by simp[aN]);simp only[rd,←I] at u⊢;split at u
  .exact u
  .rename_i n e c L;rw[L] at G;split at u
   .rename_i b J;obtain⟨U,H,O⟩:=M.some G.ptr J;simp only[H];exact u
   .exact u.elim
  .exact u
  .exact u.elim
 case extract x i=>simpa only[rd,(F x (by simp[aN])).1] using u
 case build z ps =>
  simp only[rd] at u⊢
  all_goals grind [aAp,aN]
 case mkfn f cs =>
  simp only[rd] at u⊢
  all_goals grind [List.map_congr_left,aN]
 case mm mx x y=>simpa only[rd,(F x (by simp[aN])).1,(F y (by simp[aN])).1] using u
 case b2s x =>
  have⟨I,G⟩:=F x (by simp[aN]);simp only[rd,←I,←aIn M G] at u⊢;exact u
 case eqA neg ks x y=>simpa only[rd,(F x (by simp[aN])).1,(F y (by simp[aN])).1] using u
 case idxB x y=>simpa only[rd,(F x (by simp[aN])).1,(F y (by simp[aN])).1] using u
 all_goals exact u.elim
theorem aG4 {op:BinOp}{k G:IntKind}{a b:Int}{K:AV->Prop} (u:aGe op k G a b K):∃x:Value,K (.v x)∧∀F:AV->Prop,F (.v x)->aGe op k G a b F:=by
 cases op<;>simp only[aGe] at u⊢<;> exact⟨_,u.2,λ_ H=>⟨u.1,H⟩⟩
theorem aE5 {op:BinOp}{a b:ByteArray}{K:AV->Prop} (F:aBI op a b K):∃x:Value,K (.v x)∧∀u:AV->Prop,u (.v x)->aBI op a b u:=by
 grind [aBI,BinOp]
theorem aDP {op:BinOp}{a b:Bool}{K:AV->Prop} (F:zU op a b K):∃x:Value,K (.v x)∧∀u:AV->Prop,u (.v x)->zU op a b u:=by
 grind [zU,BinOp]
inductive Nm:(Name->Prop)->AV->Prop
 |junk (p:Name->Prop):Nm p .junk
 |v (p:Name->Prop) (x:Value):Nm p (.v x)
 |sl (p:Name->Prop) (k:Nat) (l:List (List AV)) (hl:∀r,r∈l->∀x,x∈r->Nm (λ_=>False) x):Nm p (.sl k l)
 |ro (p:Name->Prop) (c:List AV) (hc:∀x,x∈c->Nm (λ_=>False) x):Nm p (.ro c)
 |loc (p:Name->Prop) (n:Name) (off len:Nat) (hn:p n):Nm p (.loc n off len)
 |ptr (p:Name->Prop) (n:Name) (e c:Nat) (hn:p n):Nm p (.ptr n e c)
 |fn (p:Name->Prop) (f:FuncId) (c:List AV) (hc:∀x,x∈c->Nm p x):Nm p (.fn f c)
 |agg (p:Name->Prop) (c:List AV) (hc:∀x,x∈c->Nm p x):Nm p (.agg c)
 |tup (p:Name->Prop) (c:List AV) (hc:∀x,x∈c->Nm p x):Nm p (.tup c)
def NmL (p:Name->Prop) (c:List AV):Prop:=∀x,x∈c->Nm p x
def NmB (p:Name->Prop):Blk->Prop
 |.var c _=>NmL p c
 |.arr _ l _=>∀r,r∈l->NmL (λ_=>False) r
theorem Nm.mono {p q:Name->Prop}{x:AV} (F:Nm p x) (u:∀n,p n->q n):Nm q x:=by
 induction F with
 |junk=>exact .junk _
 |v=>exact .v _ _
 |sl _ k l hl _=>exact .sl _ k l hl
 |ro _ c hc _=>exact .ro _ c hc
 |loc _ n off len hn=>exact .loc _ n off len (u n hn)
 |ptr _ n e c hn=>exact .ptr _ n e c (u n hn)
 |fn _ f c hc ih=>exact .fn _ f c λx F=>ih x F u
 |agg _ c hc ih=>exact .agg _ c λx F=>ih x F u
 |tup _ c hc ih=>exact .tup _ c λx F=>ih x F u
theorem Nm.off {p:Name->Prop}{x:AV} (u:Nm p x) (F:∀n,p n->¬N n):Off N x:=by
 induction u with
 |junk=>exact Off.junk
 |v=>exact Off.v _
 |sl=>exact Off.sl _ _
 |ro=>exact Off.ro _
 |loc _ n off len hn=>exact Off.mk_loc (F n hn)
 |ptr _ n e c hn=>exact Off.mk_ptr (F n hn)
 |fn _ f c hc ih=>exact Off.mk_fn (dZ.of_mem λx u=>ih x u F)
 |agg _ c hc ih=>exact Off.mk_agg (dZ.of_mem λx u=>ih x u F)
 |tup _ c hc ih=>exact Off.mk_tup (dZ.of_mem λx u=>ih x u F)
theorem Nm.of_off {p:Name->Prop}{x:AV} (u:Nm p x) (F:Off N x):Nm (λn=>¬N n) x:=by
 induction u with
 |junk=>exact .junk _
 |v=>exact .v _ _
 |sl _ k l hl _=>exact .sl _ k l hl
 |ro _ c hc _=>exact .ro _ c hc
 |loc _ n off len hn=>exact .loc _ n off len F.loc
 |ptr _ n e c hn=>exact .ptr _ n e c F.ptr
 |fn _ f c hc ih=>exact .fn _ f c λx u=>ih x u (F.fn.mem x u)
 |agg _ c hc ih=>exact .agg _ c λx u=>ih x u (F.agg.mem x u)
 |tup _ c hc ih=>exact .tup _ c λx u=>ih x u (F.tup.mem x u)
theorem Nm.getD {p:Name->Prop}{c:List AV} (u:NmL p c) (j:Nat):Nm p (c.getD j .junk):=by
 grind [NmL,Nm]
theorem NmL.drop {p:Name->Prop}{c:List AV} (u:NmL p c) (j:Nat):NmL p (c.drop j):=λx F=>u x (CU F)
theorem NmL.take {p:Name->Prop}{c:List AV} (u:NmL p c) (j:Nat):NmL p (c.take j):=λx F=>u x (CQ F)
theorem NmL.mk {p:Name->Prop}{g:Bool}{c:List AV} (u:NmL p c):Nm p (AV.mk g c):=by
 cases g
 .cases c with
  |nil=>exact .junk _
  |cons x r=>exact u x (by simp)
 .exact .agg _ c u
theorem NmL.closed {p:Name->Prop}{c:List AV} (u:NmL (λ_=>False) c):NmL p c:=λx F=>(u x F).mono λ_ h=>h.elim
theorem Nm.wG {p:Name->Prop}{c:List AV} (h:Nm p (.ro c)):NmL (λ_=>False) c:=by cases h;assumption
theorem Nm.xU {p:Name->Prop}{k:Nat}{l:List (List AV)} (h:Nm p (.sl k l)):∀r,r∈l->NmL (λ_=>False) r:=by cases h;assumption
theorem Nm.eG {p:Name->Prop}{n:Name}{e c:Nat} (h:Nm p (.ptr n e c)):p n:=by cases h;assumption
theorem Nm.iE {p:Name->Prop}{n:Name}{e c:Nat} (h:Nm p (.loc n e c)):p n:=by cases h;assumption
theorem Nm.aA3 {p:Name->Prop}{c:List AV} (h:Nm p (.tup c)):NmL p c:=by cases h;assumption
theorem NmB.row {p:Name->Prop}{b:Blk} (F:NmB p b) (e:Nat):NmL p (b.row e):=by
 cases b with
 | var c z=>cases e with
  |zero=>exact F
  |succ e=>intro x u;simp[Blk.row] at u
 | arr k l z =>
  intro x u;simp only[Blk.row] at u;rcases Cw e l.length with h|h
  .have:l.getD e []=l[e]:=by simp[List.getD,h]
   rw[this] at u;exact(F _ (Am h) x u).mono λ_ h=>h.elim
  all_goals grind
theorem aIZ {p:Name->Prop}{x:AV} (F:Nm p x) {c:List AV} (u:kR h x=some c):NmL p c:=by
 grind [kR,Nm,NmL]
theorem aJ0 {p:Name->Prop}:∀{xs cs:List AV}{o:Nat},NmL p xs->NmL p cs->NmL p (lay cs o xs)
 | [],_,_,_,hc=>hc
 | x::r,cs,o,hx,hc=>by
  rw[lay];refine aJ0 (λy u=>hx y (by simp[u])) λy u=>?_
  all_goals grind [NmL]
theorem aD5 {p:Name->Prop}:∀{F:List (Nat×Nat×Operand)}{cs:List AV}{c:List AV},(∀q,q∈F->Nm p (ev q.2.2))->NmL p cs->layAll ev h cs F (λG=>G=c)->NmL p c
 | [],_,_,_,hc,hk=>by cases hk;exact hc
 | (o,n,x)::r,cs,K,he,hc,hk=>by
  simp only[layAll] at hk;split at hk
  .rename_i c u;exact aD5 (λp H=>he p (by simp[H])) (aJ0 (aIZ (he (o,n,x) (by simp)) u) hc) hk.2
  .exact hk.elim
theorem aCP {op:AOp}{K:AV->Prop} (u:rd ev h K op):∃x,K x∧(∀J:AV->Prop,J x->rd ev h J op)∧
  ∀p:Name->Prop,(∀z O,op=.build z O->NmL p z)->(∀o,o∈aN op->Nm p (ev o))->(∀n b,p n->h n=some b->NmB p b)->Nm p x:=by
 cases op
 case mv x=>exact⟨_,u,λ_ F=>F,λp _ G _=>G x (by simp[aN])⟩
 case pick c a b =>
  simp only[rd] at u⊢;split at u
  .rename_i t ht;cases t
   .exact⟨_,u.get.2 rfl,λ_ F=>Br.mk (λh=>(by cases h)) (λ_=>F),λp _ G _=>G b (by simp[aN])⟩
   .exact⟨_,u.get.1 rfl,λ_ F=>Br.mk (λ_=>F) (λh=>(by cases h)),λp _ G _=>G a (by simp[aN])⟩
  .exact u.elim
 case load g k a =>
  simp only[rd] at u⊢;split at u
  .rename_i c I
   exact ⟨_,u.2,λ_ F=>⟨u.1,F⟩,λp _ G _=>by
     have:=G a (by simp[aN]);rw[I] at this;exact NmL.mk (NmL.take (NmL.closed this.wG) _)⟩
  .rename_i n e c I;split at u
   .rename_i b L
    exact ⟨_,u.2,λ_ F=>⟨u.1,F⟩,λp _ G hh=>by
      have:=G a (by simp[aN]);rw[I] at this;exact NmL.mk (NmL.take (NmL.drop ((hh n b this.eG L).row e) _) _)⟩
   .exact u.elim
  .exact u.elim
 case fieldAddr off x =>
  simp only[rd] at u⊢
  all_goals grind [aN,Nm]
 case loadV g k a =>
  simp only[rd] at u⊢;split at u
  .rename_i n e c I;split at u
   .rename_i cs z L
    exact ⟨_,u.2,λ_ F=>⟨u.1,F⟩,λp _ G hh=>by
      have:=G a (by simp[aN]);rw[I] at this;exact NmL.mk (NmL.take (NmL.drop ((hh n _ this.eG L).row e) _) _)⟩
   .exact u.elim
  .exact u.elim
 case fieldV off x =>
  simp only[rd] at u⊢
  all_goals grind [aN,Nm]
 case field g off k x =>
  simp only[rd] at u⊢
  all_goals grind [aN,NmL.mk,NmL,Nm]
 case idxSl k x i =>
  simp only[rd] at u⊢
  all_goals grind [aN,Nm]
 case idxArr n k x i =>
  simp only[rd] at u⊢
  all_goals grind [aN,Nm]
 case idxAgg g n k x i =>
  simp only[rd] at u⊢
  all_goals grind [aN,NmL.mk,NmL,Nm]
 case idxStr x i =>
  simp only[rd] at u⊢
  all_goals grind [Nm]
 case bin o x y =>
  simp only[rd] at u⊢
  all_goals grind [aG4,Nm]
 case binS o x y =>
  simp only[rd] at u⊢
  all_goals grind [aE5,Nm]
 case binB o x y =>
  simp only[rd] at u⊢
  all_goals grind [aDP,Nm]
 case un o x =>
  simp only[rd] at u⊢
  all_goals grind [Nm]
 case conv k x =>
  simp only[rd] at u⊢
  all_goals grind [Nm]
 case len x =>
  simp only[rd] at u⊢
  all_goals grind [Nm]
 case lenS x =>
  simp only[rd] at u⊢
  all_goals grind [Nm]
 case lenC n=>exact⟨_,u,λ_ F=>F,λp _ _ _=>.v _ _⟩
 case slc k x lo hi =>
  simp only[rd] at u⊢;split at u
  .rename_i k' l I
   have H:∀p:Name->Prop,(∀o,o∈aN (.slc k x lo hi)->Nm p (ev o))->∀a b,Nm p (.sl k ((l.take a).drop b)):=λp G a b=>by
    have:=G x (by simp[aN]);rw[I] at this;exact .sl _ _ _ λr Y=>this.xU r (CQ (CU Y))
   split at u
   .exact⟨_,u.2,λ_ F=>⟨u.1,F⟩,λp _ G _=>H p G _ _⟩
   .exact⟨_,u.2,λ_ F=>⟨u.1,F⟩,λp _ G _=>H p G _ _⟩
   .exact⟨_,u.2,λ_ F=>⟨u.1,F⟩,λp _ G _=>H p G _ _⟩
   .exact⟨_,u.2,λ_ F=>⟨u.1,F⟩,λp _ G _=>H p G _ _⟩
   .exact u.elim
  .rename_i n off len I
   have H:∀p:Name->Prop,(∀o,o∈aN (.slc k x lo hi)->Nm p (ev o))->∀a b,Nm p (.loc n a b):=λp G a b=>by
    have:=G x (by simp[aN]);rw[I] at this;exact .loc _ _ _ _ this.iE
   split at u
   .split at u
    .exact⟨_,u.2,λ_ F=>⟨u.1,F⟩,λp _ G _=>H p G _ _⟩
    .exact⟨_,u.2,λ_ F=>⟨u.1,F⟩,λp _ G _=>H p G _ _⟩
    .exact⟨_,u.2,λ_ F=>⟨u.1,F⟩,λp _ G _=>H p G _ _⟩
    .exact⟨_,u.2,λ_ F=>⟨u.1,F⟩,λp _ G _=>H p G _ _⟩
    .exact u.elim
   .exact u.elim
  .exact u.elim
 case sstr x lo hi =>
  simp only[rd] at u⊢
  all_goals grind [Nm]
 case nilc x =>
  simp only[rd] at u⊢
  all_goals grind [aN]
 case extract x i =>
  simp only[rd] at u⊢
  all_goals grind [aN,Nm]
 case build z O =>
  simp only[rd] at u⊢;obtain⟨c,U,h2⟩:=vY u;refine⟨_,U,?_,λp Z G _=>?_⟩
  .exact λJ F=>xQ (λc' M=>by rw[M];exact F) h2
  .exact .agg _ _ (aD5 (λq V=>G _ (by simp only[aN,BG];exact⟨q,V,rfl⟩)) (Z z O rfl) h2)
 case mkfn f cs =>
  simp only[rd] at u⊢
  all_goals grind [aN,Nm]
 case mm mx x y =>
  simp only[rd] at u⊢
  all_goals grind [Nm]
 case b2s x =>
  simp only[rd] at u⊢
  all_goals grind [Nm]
 case idxB x y =>
  simp only[rd] at u⊢
  all_goals grind [Nm]
 case eqA neg ks x y =>
  simp only[rd] at u⊢
  all_goals grind [Nm]
 all_goals exact u.elim
end
section
variable [Envs]
variable {P:Program}{C:Ctx}{a:Act}{w:World}{S:Nat->Prop}{ρ:Name->Option Nat}{κ:Name->Nat}
variable {N:Name->Prop}{h h':Name->Option Blk}{ev ev':Operand->AV}
theorem aNl {n:Name} (G:Agr N h h') {op:AOp}{K:AV->Blk->Prop} (M:∀z,op=.alloc z->dZ N z) (u:∀k m z F,op=.bslice k m z F->dZ N z) (J:∀k m z x,op=.mk k m z x->dZ N z)
  (L:∀o,o∈aN op->ev o=ev' o∧Off N (ev o)) (H:al ev h n K op):al ev' h' n K op:=by
 cases op
 all_goals try grind [aN,al,aDy,rQ,mV,AV]
 case bslice k m z F =>
  simp only[al] at H⊢;rw[←aBK (p:=rQ h) λx I=>aCY G ((u k m z F rfl).mem x I)]
  all_goals grind [aAp,aN]
 all_goals grind [aN,al,rQ,mV,AV]
theorem yL {n:Name}{op:AOp}{K:AV->Blk->Prop} (u:al ev h n K op):∃x b,K x b∧(∀H:AV->Blk->Prop,H x b->al ev h n H op)∧
  (∀N:Name->Prop,¬N n->Off N x)∧∀N:Name->Prop,(∀z,op=.alloc z->dZ N z)->(∀o,o∈aN op->Off N (ev o))->aDG N b:=by
 cases op
 case box x =>
  simp only[al] at u⊢;split at u
  .rename_i c M;exact⟨_,_,u,λ_ h=>h,λN F=>Off.mk_ptr F,λN _ O m G=>aG0 (O x (by simp[aN])) M m G⟩
  .exact u.elim
 case alloc z =>
  simp only[al] at u⊢;exact⟨_,_,u.2,λ_ h=>⟨u.1,h⟩,λN F=>Off.mk_ptr F,λN U _ m G=>U z rfl m G⟩
 case bslice k m z ps =>
  simp only[al] at u⊢;obtain⟨c,⟨J,h2⟩,L⟩:=vY u.2;refine⟨_,_,h2,λH h=>⟨u.1,xQ (λV I=>?_) L⟩,λN F=>Off.mk_loc F,λN _ _ m G=>rfl⟩;rw[I];exact⟨J,h⟩
 case mk k y z x =>
  simp only[al] at u⊢;split at u
  .exact⟨_,_,u.2,λ_ h=>⟨u.1,h⟩,λN F=>Off.mk_loc F,λN _ _ m G=>rfl⟩
  .exact u.elim
 all_goals exact u.elim
theorem aC9 {f g:AV->Option (AV×List Name)}:∀{c:List AV},(∀x,x∈c->f x=g x)->dF f c=dF g c
 | [],_=>rfl
 |x::r,hh=>by simp only[dF,hh x (by simp),aC9 (c:=r) λy u=>hh y (by simp[u])]
theorem aAo {f:AV->Option (AV×List Name)} (p:Name->Prop):∀{c u:List AV}{L:List Name},(∀x,x∈c->∀y L,f x=some (y,L)->∀n,n∈L->p n)->dF f c=some (u,L)->∀n,n∈L->p n
 | [],u,L,_,hm,n,hn=>by
  grind [dF]
 | x::r,u,L,hh,hm,n,hn=>by
  simp only[dF] at hm;split at hm
  .rename_i y L1 ys L2 G h2;simp only[Aj,AZ] at hm;rw[←hm.2] at hn;rcases Be.1 hn with hn|hn
   .grind
   .exact aAo p (λz F=>hh z (by simp[F])) h2 n hn
  .cases hm
theorem aF7 (O:Agr N h h') (hb:∀n b,¬N n->h n=some b->aDG N b):∀(m:Nat) (c:Bool) (x:AV),Off N x->conv h m [] c x=conv h' m [] c x∧∀y L,conv h m [] c x=some (y,L)->∀n,n∈L->¬N n:=by
 intro m
 induction m with
 |zero=>intro c x _;exact⟨rfl,λy L h=>by simp[conv] at h⟩
 | succ m ih =>
  intro c x F
  have G:∀(c:Bool) (cs:List AV),dZ N cs->dF (conv h m [] c) cs=dF (conv h' m [] c) cs∧∀ys L,dF (conv h m [] c) cs=some (ys,L)->∀n,n∈L->¬N n:=λc cs M =>
   ⟨aC9 λx H=>(ih c x (M.mem x H)).1,λys L J=>aAo (λn=>¬N n) (λx H y L hc=>(ih c x (M.mem x H)).2 y L hc) J⟩
  cases x
  case junk=>exact⟨rfl,λy L h=>by simp only[conv] at h;split at h<;>simp at h;rw[h.2];simp⟩
  case v x=>exact⟨rfl,λy L h=>by simp only[conv,Aj,AZ] at h;rw[←h.2];simp⟩
  case sl k l=>exact⟨rfl,λy L h=>by simp only[conv,Aj,AZ] at h;rw[←h.2];simp⟩
  case ro c=>exact⟨rfl,λy L h=>by simp only[conv,Aj,AZ] at h;rw[←h.2];simp⟩
  case loc n off len =>
   simp only[conv,kJ];cases H:h n with
   |none=>rw[O.none F.loc H];exact⟨rfl,λy L h=>by simp at h⟩
   | some b =>
    obtain⟨b',I,e⟩:=O.some F.loc H;rw[I];cases b with
    | var c z =>
     grind [aCy]
    | arr k l z =>
     obtain⟨z',rfl⟩:=zQ e;refine⟨rfl,λy L h=>?_⟩;simp only[Aj,AZ] at h;rw[←h.2];intro Z u;rw[Ar.1 u];exact F.loc
  case ptr n e o =>
   simp only[conv,kJ];cases H:h n with
   |none=>rw[O.none F.ptr H];exact⟨rfl,λy L h=>by simp at h⟩
   | some b =>
    obtain⟨b',I,Y⟩:=O.some F.ptr H;rw[I];have U:=hb n b F.ptr H;cases b with
    | var c z =>
     obtain⟨z',rfl⟩:=aCy Y;have V:=G true c U;simp only[V.1,Ci];intro y L h;cases J:dF (conv h' m [] true) c with
     |none=>rw[J] at h;simp at h
     | some q =>
      rw[J] at h;simp only[Ba,Aj,AZ] at h;rw[←h.2];intro Z u;rcases Ay.1 u with rfl|u
      .exact F.ptr
      .grind
    | arr k l z =>
     obtain⟨z',rfl⟩:=zQ Y;refine⟨rfl,λy L h=>?_⟩;simp only[Aj,AZ] at h;rw[←h.2];intro Z u;rw[Ar.1 u];exact F.ptr
  all_goals
   rename_i cs;have V:=G c cs (by first|exact F.fn|exact F.agg|exact F.tup);simp only[conv,V.1,Ci];intro y L h;cases J:dF (conv h' m [] c) cs with
   |none=>rw[J] at h;simp at h
   | some q =>
    grind
mutual
theorem aJy (φ:Name->Option Name) (n:Name) (u:∀m,φ m≠some n):∀x:AV,(rn φ x).has n=false
 |.v _=>rfl
 |.sl _ _=>rfl
 |.ro _=>rfl
 |.junk=>rfl
 | .loc m off len=>by
  grind [rn,AV.has]
 | .ptr m e c=>by
  grind [rn,AV.has]
 |.fn f c=>by simp only[rn,AV.has];exact aAO φ n u c
 |.agg c=>by simp only[rn,AV.has];exact aAO φ n u c
 |.tup c=>by simp only[rn,AV.has];exact aAO φ n u c
theorem aAO (φ:Name->Option Name) (n:Name) (u:∀m,φ m≠some n):∀c:List AV,lJ n (rnL φ c)=false
 | []=>rfl
 |x::r=>by simp only[rnL,lJ,aJy φ n u x,aAO φ n u r,Bool.or_self]
end
end
section
variable [Envs]
variable {P:Program}{C:Ctx}{a:Act}{w:World}{S:Nat->Prop}{ρ:Name->Option Nat}{κ:Name->Nat}
structure Dl where
 v:AV
 nb:List (Name×Blk)
 fz:Bool
 L:List Name
 nn:Name->Prop
def app (d:Option Nat) (δ:Dl) (σ:FSt):FSt:=
 ⟨upd σ.s d δ.v,λm=>(aB δ.nb m).or ((σ.h m).map λb=>if δ.fz=true∧m∈δ.L then frz b else b)⟩
def isV:AV->Bool
 |.v _=>true
 |_=>false
def okZ:AOp->Bool
 |.build z _=>z.all isV
 |.alloc z=>z.all isV
 |.bslice _ _ z _=>z.all isV
 |.mk _ _ z _=>z.all isV
 |_=>true
def qK:AOp->Bool
 |.call _ _ bor=>bor.isEmpty
 |.store .. | .append .. | .appendC .. | .bsliceC .. | .clr ..=>false
 |op=>okZ op
theorem aL3 {p:Name->Prop}{z:List AV} (h:z.all isV=true):NmL p z:=by
 intro x u;have:=Aw.1 h x u;cases x<;>simp[isV] at this;exact .v _ _
theorem aGg {N:Name->Prop}{z:List AV} (h:z.all isV=true):dZ N z:=by
 grind [dZ.of_mem,isV,Off.v,AV]
inductive Eff (P:Program) (d:Option Nat) (op:AOp) (σ:FSt):Dl->Prop
 | rd (v:AV) (h1:wE op=true) (h2:∀K:AV->Prop,K v->Vs.rd (evO σ.s) σ.h K op)
   (h3:∀p:Name->Prop,(∀o,o∈aN op->Nm p (evO σ.s o))->(∀n b,p n->σ.h n=some b->NmB p b)->Nm p v):Eff P d op σ ⟨v,[],false,[],λ_=>False⟩
 | al (d':Nat) (hd:d=some d') (v:AV) (b:Blk) (h1:∀K:AV->Blk->Prop,K v b->Vs.al (evO σ.s) σ.h (.t d' 0) K op) (hf:gW (.t d' 0) σ) (hn:b.has (.t d' 0)=false)
   (h2:∀N:Name->Prop,¬N (.t d' 0)->Off N v) (h3:∀N:Name->Prop,(∀o,o∈aN op->Off N (evO σ.s o))->aDG N b):Eff P d op σ ⟨v,[(.t d' 0,b)],false,[],λn=>n=.t d' 0⟩
 | call (d':Nat) (hd:d=some d') (f:Operand) (args:List Operand) (hop:op=.call f args []) (g:FuncId) (caps:List AV) (hg:evO σ.s f=.fn g caps) (ys:List AV) (L:List Name)
   (hm:dF (conv σ.h 8 [] false) (args.map (evO σ.s)++caps)=some (ys,L)) (r:AV) (hout:List (Option Blk)) (fz:Bool) (hfn:Fn P g [] ys r hout)
   (hflat:fz=false->(L=[]∨(flat r=true∧∀b,some b∈hout->aAg b))) (hfr:∀j,j<hout.length->gW (.t d' j) σ) :
   Eff P d op σ ⟨rn (phi [] d' hout.length) r,rU (rnB (phi [] d' hout.length)) d' 0 0 hout,fz,L,λn=>∃j,j<hout.length∧n=.t d' j⟩
def Canon (σ:St):Prop:=(∀p,p∈σ.s->look σ.s p.1=p.2)∧∀p,p∈σ.h->aB σ.h p.1=some p.2
def aDr:List (Nat×AV)->List (Nat×AV)
 | []=>[]
 |(i,x)::r=>(i,x)::(aDr r).filter λp=>!decide (p.1=i)
def aDs:List (Name×Blk)->List (Name×Blk)
 | []=>[]
 |(i,x)::r=>(i,x)::(aDs r).filter λp=>!decide (p.1=i)
theorem tF (i:Nat):∀(s:List (Nat×AV)) (t:Nat),t≠i->look (s.filter λp=>!decide (p.1=i)) t=look s t
 | [],_,_=>rfl
 | (j,x)::r,t,ht=>by
  by_cases u:j=i
  .simp only[DC,u,decide_true,BP,A8,Bg,look,ht,tF i r t ht]
  .simp only[DC,u,decide_false,Cb,Bt,look,tF i r t ht]
theorem qO (i:Name):∀(s:List (Name×Blk)) (t:Name),t≠i->aB (s.filter λp=>!decide (p.1=i)) t=aB s t
 | [],_,_=>rfl
 | (j,x)::r,t,ht=>by
  by_cases u:j=i
  .simp only[DC,u,decide_true,BP,A8,Bg,aB,ht,qO i r t ht]
  .simp only[DC,u,decide_false,Cb,Bt,aB,qO i r t ht]
theorem aBB:∀s:List (Nat×AV),look (aDr s)=look s∧∀p,p∈aDr s->look (aDr s) p.1=p.2
 | []=>⟨rfl,by simp[aDr]⟩
 | (i,x)::r=>by
  obtain⟨F,h2⟩:=aBB r
  have e:look (aDr ((i,x)::r))=look ((i,x)::r):=by
   funext t
   simp only[aDr,look];split
   .rfl
   .rename_i G;rw[tF i _ _ G,F]
  refine⟨e,λp u=>?_⟩;simp only[aDr,Ay,BN,Bz,BH] at u;rcases u with rfl|⟨u,hne⟩
  .simp[aDr,look]
  .simp only[aDr,look,hne,Bg];rw[tF i _ _ hne];exact h2 p u
theorem aBC:∀s:List (Name×Blk),aB (aDs s)=aB s∧∀p,p∈aDs s->aB (aDs s) p.1=some p.2
 | []=>⟨rfl,by simp[aDs]⟩
 | (i,x)::r=>by
  obtain⟨F,h2⟩:=aBC r
  have e:aB (aDs ((i,x)::r))=aB ((i,x)::r):=by
   funext t
   simp only[aDs,aB];split
   .rfl
   .rename_i G;rw[qO i _ _ G,F]
  refine⟨e,λp u=>?_⟩;simp only[aDs,Ay,BN,Bz,BH] at u;rcases u with rfl|⟨u,hne⟩
  .simp[aDs,aB]
  .simp only[aDs,aB,hne,Bg];rw[qO i _ _ hne];exact h2 p u
def canon (σ:St):St:=⟨aDr σ.s,aDs σ.h⟩
theorem l7 (σ:St):(canon σ).f=σ.f:=by simp only[canon,St.f,(aBB σ.s).1,(aBC σ.h).1]
theorem aBe (σ:St):Canon (canon σ):=⟨(aBB σ.s).2,(aBC σ.h).2⟩
theorem zS {n:Name}{σ:St} (F:Canon σ) (I:n.isT=true) (G:gW n σ.f):dE n σ=true:=by
 simp only[dE,Au,Aw,Bz,BH];refine⟨⟨I,λp u=>?_⟩,λp u=>⟨?_,?_⟩⟩
 .rw[←F.1 p u];exact G.2.1 p.1
 .intro e;have H:=G.1.1;have h2:=F.2 p u;rw[e] at h2;simp only[St.f] at H;rw[H] at h2;cases h2
 .exact G.2.2 p.1 p.2 (F.2 p u)
theorem aAB {op:AOp} (h:wE op=true) {d:Option Nat}{σ:St}{K:St->Prop}:bN P d σ K op↔rd (evO (look σ.s)) (aB σ.h) (λv=>K ⟨put d v σ.s,σ.h⟩) op:=by
 grind [wE,AOp,bN]
theorem aG6 {d:Option Nat}{σ:St}{v:AV}{u:Name->Prop}:(St.mk (put d v σ.s) σ.h).f=app d ⟨v,[],false,[],u⟩ σ.f:=by
 simp only[St.f,app,kH,aB,Dv,A8,false_and,Bg];congr 1
 funext m
 cases aB σ.h m<;>rfl
theorem aG7 {d:Nat}{σ:St}{v:AV}{b:Blk}{n:Name}{F:Name->Prop}:(St.mk ((d,v)::σ.s) ((n,b)::σ.h)).f=app (some d) ⟨v,[(n,b)],false,[],F⟩ σ.f:=by
 simp only[St.f,app,A8,false_and,Bg];congr 1
 funext m
 simp only[aB];by_cases u:m=n
 .simp[u]
 .simp only[u,Bg,Dv];cases aB σ.h m<;>rfl
theorem aGf {d:Nat}{σ:St}{v:AV}{hout:List (Option Blk)}{fz:Bool}{L:List Name}{u:Name->Prop} :
  (St.mk ((d,v)::σ.s) (xB σ.h [] d hout fz L)).f=app (some d) ⟨v,rU (rnB (phi [] d hout.length)) d 0 0 hout,fz,L,u⟩ σ.f:=by
 simp only[St.f,app];congr 1
 funext m
 unfold xB;rw[aA7];simp only[Ab];congr 1;rw[aAr _ (λm b F h=>by simp[aGh,kJ] at h)];cases aB σ.h m with
 |none=>rfl
 |some b=>simp[aGh,kJ]
theorem aB3 {d:Option Nat}{σ:St}{K:St->Prop}{op:AOp} (u:qK op=true) (M:wE op=true∨d.isSome=true) (F:bN P d σ K op) :
  ∃δ,Eff P d op σ.f δ∧∃σ':St,σ'.f=app d δ σ.f∧K σ':=by
 by_cases Y:wE op=true
 .rw[aAB Y] at F;obtain⟨x,I,h2,L⟩:=aCP F;refine⟨_,.rd x Y h2 (λp V hb=>L p (λz ps e=>?_) V hb),_,aG6,I⟩
  all_goals grind [aL3,qK,okZ]
 .have M:=M.resolve_left Y;obtain⟨d',rfl⟩:=AQ.1 M
  have H:∀{op:AOp},qK op=true->al (evO (look σ.s)) (aB σ.h) (.t d' 0) (λv b=>(dE (.t d' 0) σ=true∧b.has (.t d' 0)=false)∧K ⟨(d',v)::σ.s,(.t d' 0,b)::σ.h⟩) op->
    ∃δ,Eff P (some d') op σ.f δ∧∃σ':St,σ'.f=app (some d') δ σ.f∧K σ':=by
   intro op u F;obtain⟨x,b,⟨⟨I,h2⟩,L⟩,h4,h5,h6⟩:=yL F;refine⟨_,.al d' rfl x b h4 (dV I) h2 h5 (λN V=>h6 N (λz e=>?_) V),_,aG7,L⟩;subst e;exact aGg (by simpa[qK,okZ] using u)
  cases op
  case box x=>exact H u F
  case alloc z=>exact H u F
  case bslice k m z ps=>exact H u F
  case mk k y z n=>exact H u F
  case call f args bor =>
   simp only[qK,List.isEmpty_iff] at u;subst u;simp only[bN,aDA] at F;split at F
   .rename_i g caps hg;have hB:aGd σ.h (args.map (evO (look σ.s))) []=[]:=rfl;rw[hB] at F;split at F
    .rename_i ys L1 hin L2 I h2;simp only[vO,Aj,AZ] at h2;obtain⟨rfl,rfl⟩:=h2;obtain⟨_,r,hout,fz,O,G,U,Z⟩:=F;simp only[AA,BS,Ab] at G U Z
     have J:∀j,j<hout.length->gW (.t d' j) σ.f:=by
      grind [iR,dV]
     exact⟨_,.call d' rfl f args rfl g caps hg ys L1 I r hout fz O G J,_,aGf,Z⟩
    .exact F.elim
   .exact F.elim
  all_goals grind [qK,wE]
theorem xD {d:Option Nat}{σ:St}{op:AOp}{δ:Dl} (H:Canon σ) (J:Eff P d op σ.f δ):bN P d σ (fun σ'=>σ'.f=app d δ σ.f) op:=by
 cases J with
 | rd v h1 h2 h3 =>
  rw[aAB h1];exact h2 _ aG6
 | al d' hd v b h1 hf hn h2 h3 =>
  subst hd;have u:=zS H rfl hf;have:=h1 (λv b=>(dE (.t d' 0) σ=true∧b.has (.t d' 0)=false)∧(St.mk ((d',v)::σ.s) ((.t d' 0,b)::σ.h)).f=app (some d') ⟨v,[(.t d' 0,b)],false,[],λn=>n=.t d' 0⟩ σ.f) ⟨⟨u,hn⟩,aG7⟩
  cases op<;>first
   |exact this.elim
   | (simp only[bN]
      exact h1 _ ⟨⟨u,hn⟩,aG7⟩)
 | call d' hd f args hop g caps hg ys L hm r hout fz hfn hflat hfr =>
  subst hd;subst hop;simp only[bN,aDA];have F:evO (look σ.s) f=.fn g caps:=hg;have G:dF (conv (aB σ.h) 8 [] false) (args.map (evO (look σ.s))++caps)=some (ys,L):=hm;have I:aGd σ.h (args.map (evO (look σ.s))) []=[]:=rfl;rw[F,I];simp only[G,vO];refine⟨rfl,r,hout,fz,hfn,by simpa using hflat,?_,?_⟩
  .simp only[iR,Aw,BI];intro j M;simp only[BS,zS H rfl (hfr j M),Bool.or_true]
  .simp only[AA,BS,Ab];exact aGf
end
section
variable [Envs]
variable {P:Program}{C:Ctx}{a:Act}{w:World}{S:Nat->Prop}{ρ:Name->Option Nat}{κ:Name->Nat}
structure WF (σ:FSt):Prop where
 s:∀t,Nm (λ_=>True) (σ.s t)
 h:∀n b,σ.h n=some b->NmB (λ_=>True) b
theorem aMj {x:AV}{v:Value} (h:RC S w x v):Nm (λ_=>False) x:=by
 have u:∀(c:List AV),(∀j,j<c.length->Nm (λ_=>False) (c.getD j .junk))->∀y,y∈c->Nm (λ_=>False) y:=by
  intro c F y I;obtain⟨j,G,rfl⟩:=Ct.1 I;have:=F j G;simpa[List.getD,G] using this
 induction h with
 |v x=>exact .v _ _
 | sl k l base cap x off xs hb F ho hr hk hcap ih =>
  refine .sl _ _ _ λr H y I=>?_;obtain⟨i,hi,rfl⟩:=Ct.1 H;have e:l.getD i []=l[i]:=by simp[List.getD,hi]
  refine u _ (λj G=>?_) y I
  all_goals grind
 |ro c x off xs hx F ho hr ih=>exact .ro _ _ (u c ih)
 |fn f c vs hl hr ih=>exact .fn _ _ _ (u c ih)
 |agg c vs hl hr ih=>exact .agg _ _ (u c ih)
 |tup c vs hl hr ih=>exact .tup _ _ (u c ih)
theorem aMg {h:Name->Option Blk}{x:AV}{v:Value} (F:RV S w ρ κ h x v):Nm (λ_=>True) x:=by
 have u:∀(c:List AV),(∀j,j<c.length->Nm (λ_=>True) (c.getD j .junk))->∀y,y∈c->Nm (λ_=>True) y:=by
  intro c H y I;obtain⟨j,G,rfl⟩:=Ct.1 I;have:=H j G;simpa[List.getD,G] using this
 induction F with
 |junk v=>exact .junk _
 |clo F=>exact(aMj F).mono λ_ h=>h.elim
 |loc n off len v hv=>exact .loc _ _ _ _ trivial
 |ptr n e c v hv=>exact .ptr _ _ _ _ trivial
 |fn f c vs hl hr ih=>exact .fn _ _ _ (u c ih)
 |agg c vs hl hr ih=>exact .agg _ _ (u c ih)
 |tup c vs hl hr ih=>exact .tup _ _ (u c ih)
theorem OK.wf {σ:FSt} (u:OK C σ a w S ρ κ):WF σ:=by
 refine⟨λt=>aMg (u.slots t),λn b I=>?_⟩;have F:=u.hok.blk n b I;cases b with
 | var c z =>
  obtain⟨x,cs,T,fr,_,_,_,_,_,_,_,H⟩:=F;intro y J
  all_goals grind [List.mem_iff_getElem.1,aMg]
 | arr k l z =>
  obtain⟨L,⟨_,rfl⟩|⟨x,cs,T,fr,_,_,_,_,_,_,_,H⟩⟩:=F
  .intro r G;cases G
  .intro r G y J
   all_goals grind [List.mem_iff_getElem.1,aMj]
theorem Nm.and {p q:Name->Prop}{x:AV} (u:Nm p x) (F:Off (λn=>¬q n) x):Nm (λn=>p n∧q n) x:=by
 induction u with
 |junk=>exact .junk _
 |v=>exact .v _ _
 |sl _ k l hl _=>exact .sl _ k l hl
 |ro _ c hc _=>exact .ro _ c hc
 |loc _ n off len hn=>exact .loc _ n off len ⟨hn,Classical.not_not.1 F.loc⟩
 |ptr _ n e c hn=>exact .ptr _ n e c ⟨hn,Classical.not_not.1 F.ptr⟩
 |fn _ f c hc ih=>exact .fn _ f c λx u=>ih x u (F.fn.mem x u)
 |agg _ c hc ih=>exact .agg _ c λx u=>ih x u (F.agg.mem x u)
 |tup _ c hc ih=>exact .tup _ c λx u=>ih x u (F.tup.mem x u)
theorem aDG.mem {N:Name->Prop}{c:List AV}{z:Bool} (F:aDG N (.var c z)):dZ N c:=λn u=>F n u
theorem NmB.and {p q:Name->Prop}{b:Blk} (F:NmB p b) (G:aDG (λn=>¬q n) b):NmB (λn=>p n∧q n) b:=by
 cases b with
 |var c z=>exact λx u=>(F x u).and (G.mem.mem x u)
 |arr k l z=>exact F
theorem NmB.frz {p:Name->Prop}{b u:Blk} (F:frz u=frz b) (G:NmB p b):NmB p u:=by
 grind [Vs.frz,NmB,Blk]
theorem Eff.move {d:Option Nat}{op:AOp}{σ σ':FSt}{δ:Dl}{N:Name->Prop} (he:Eff P d op σ δ) (U:qK op=true)
  (H:∀o,o∈aN op->evO σ.s o=evO σ'.s o∧Off N (evO σ.s o)) (J:Agr N σ.h σ'.h) (V:∀n b,¬N n->σ.h n=some b->aDG N b)
  (Y:∀n,δ.nn n->gW n σ'):Eff P d op σ' δ:=by
 cases he with
 | rd v h1 h2 h3 =>
  refine .rd v h1 (λK M=>aMH J H (h2 K M)) λp hp hh=>?_;have e:(λn=>¬¬N n)=N:=funext λn=>propext Classical.not_not;have:=h3 (λn=>p n∧¬N n) (λo u=>?_) (λn b I G=>?_)
  .exact this.mono λn h=>h.1
  .obtain⟨e1,e2⟩:=H o u;refine Nm.and ?_ (by rw[e];exact e2);rw[e1];exact hp o u
  .obtain⟨b',h4,h5⟩:=J.some I.2 G;refine NmB.and (NmB.frz h5.symm (hh n b' I.1 h4)) (by rw[e];exact V n b I.2 G)
 | al d' hd v b h1 hf' I h2 h3 =>
  refine .al d' hd v b (λK M=>aNl J ?_ ?_ ?_ H (h1 K M)) (Y _ rfl) I h2 λZ O=>h3 Z λo u=>by rw[(H o u).1];exact O o u
  all_goals grind [aGg,qK,okZ]
 | call d' hd f args hop g caps hg ys L u r hout fz hfn hflat hfr =>
  subst hop;have⟨ef,of⟩:=H f (by simp[aN]);rw[hg] at of;have F:args.map (evO σ.s)=args.map (evO σ'.s):=List.map_congr_left λo u=>(H o (by simp[aN,u])).1;refine .call d' hd f args rfl g caps (by rw[←ef];exact hg) ys L ?_ r hout fz hfn hflat λj hj=>?_
  .rw[←F,←aC9 (f:=conv σ.h 8 [] false) λx G=>?_]
   .exact u
   .refine(aF7 J V 8 false x ?_).1;rcases Be.1 G with G|G
    .grind [aN]
    .exact of.fn.mem x G
  .exact Y _ ⟨j,hj,rfl⟩
theorem Eff.new {d:Option Nat}{op:AOp}{σ:FSt}{δ:Dl} (G:Eff P d op σ δ):(∀n,δ.nn n->∃d' j,d=some d'∧n=.t d' j∧gW n σ)∧∀n b,aB δ.nb n=some b->δ.nn n:=by
 cases G with
 |rd v h1 h2 h3=>exact⟨λn F=>F.elim,λn b u=>by simp[aB] at u⟩
 | al d' hd v b h1 hf' F h2 h3 =>
  grind [aB]
 | call d' hd f args hop g caps hg ys L hm r hout fz hfn hflat hfr =>
  refine⟨λn ⟨j,hj,e⟩=>⟨d',j,hd,e,by rw[e];exact hfr j hj⟩,λn b u=>?_⟩;rw[aAs] at u;cases n with
  |b j=>simp[xP] at u
  | t d'' j =>
   grind [xP]
theorem aLc {N:Name->Prop}{φ:Name->Option Name} (F:∀n m,N n->φ m≠some n) (b:Blk):aDG N (rnB φ b):=by
 cases b with
 |var c z=>exact λn u=>aAO φ n (λm=>F n m u) c
 |arr k l z=>exact λn u=>rfl
theorem yZ {g:Blk->Blk}{d nB:Nat}:∀{l:List (Option Blk)}{i:Nat}{n:Name}{b:Blk},(n,b)∈rU g d nB i l->∃u,b=g u
 | [],_,_,_,h=>by simp[rU] at h
 |none::r,i,n,b,h=>yZ (l:=r) (i:=i+1) (by simpa[rU] using h)
 | some x::r,i,n,b,h=>by
  simp only[rU] at h;split at h
  .rcases Ay.1 h with h|h
   .grind
   .exact yZ h
  .exact yZ h
theorem Eff.off {d:Option Nat}{op:AOp}{σ:FSt}{δ:Dl}{N:Name->Prop} (he:Eff P d op σ δ) (hN:∀n,δ.nn n->¬N n) (M:∀d' j,d=some d'->¬N (.t d' j)) (O:WF σ)
  (J:∀o,o∈aN op->Off N (evO σ.s o)) (H:∀n b,¬N n->σ.h n=some b->aDG N b) :
  Off N δ.v∧(∀n b,aB δ.nb n=some b->aDG N b)∧∀n,n∈δ.L->¬N n:=by
 have G:∀o,Nm (λ_=>True) (evO σ.s o):=by
  intro o;cases o with
  |tmp t=>exact O.s t
  | const v =>
   simp only[evO]
   cases v<;>first
    |exact .v _ _
    | (simp only[AV.ofValue]
       refine .agg _ _ λx u=>?_;obtain⟨y,_,rfl⟩:=BG.1 u;exact .v _ _)
  |global g=>exact .junk _
  |func f=>exact .fn _ _ _ (by simp)
 cases he with
 | rd v h1 h2 h3 =>
  refine⟨?_,λn b H=>by simp[aB] at H,by simp⟩;have:=h3 (λn=>¬N n) (λo I=>(G o).of_off (J o I)) λn b F u=>?_
  .exact this.off λn F=>F
  .have e:(λn=>¬¬N n)=N:=funext λn=>propext Classical.not_not;have:=NmB.and (q:=λn=>¬N n) (O.h n b u) (by rw[e];exact H n b F u)
   all_goals grind
 | al d' hd v b h1 hf' F h2 h3 =>
  grind [aB]
 | call d' hd f args hop g caps hg ys L I r hout fz hfn hflat hfr =>
  subst hop
  have U:∀n m,N n->phi [] d' hout.length m≠some n:=by
   grind [phi,Name]
  refine⟨λn F=>aJy _ n (λm=>U n m F) r,λn b u=>?_,λn F=>?_⟩
  .obtain⟨Y,rfl⟩:=yZ (vE _ _ _ u);exact aLc U Y
  .have of:=J f (by simp[aN]);rw[hg] at of;refine aAo (λn=>¬N n) (λx u y V Z=>?_) I n F;refine(aF7 (h':=σ.h) (λ_ _=>rfl) H 8 false x ?_).2 y V Z;rcases Be.1 u with u|u
   .grind [aN]
   .exact of.fn.mem x u
theorem aAh (d:Option Nat) (δ:Dl) (σ:FSt) (n:Name):(app d δ σ).h n=(aB δ.nb n).or ((σ.h n).map λb=>if δ.fz=true∧n∈δ.L then frz b else b):=rfl
theorem aM4 (b:Blk) (p:Prop) [Decidable p]:frz (if p then frz b else b)=frz b:=by
 split
 .cases b<;>rfl
 .rfl
theorem aH6 {d:Option Nat}{δ:Dl}{σ:FSt} (u:∀n b,aB δ.nb n=some b->δ.nn n):Agr δ.nn σ.h (app d δ σ).h:=by
 intro n h;rw[aAh];cases hx:aB δ.nb n with
 |some b=>exact absurd (u n b hx) h
 | none =>
  rw[Dv];cases σ.h n with
  |none=>rfl
  |some b=>simp only[Ba,aM4]
theorem qL {d:Option Nat}{δ:Dl}{σ:FSt}{t:Nat} (h:d≠some t):(app d δ σ).s t=σ.s t:=by
 cases d with
 |none=>rfl
 | some d =>
  grind [app,upd]
theorem qB {d:Nat}{δ:Dl}{σ:FSt}:(app (some d) δ σ).s d=δ.v:=by simp[app,upd]
theorem aCA {d:Option Nat}{δ:Dl}{σ:FSt}{o:Operand} (h:∀t,d=some t->o≠.tmp t):evO (app d δ σ).s o=evO σ.s o:=by
 grind [evO,qL,Operand]
theorem gW.off {n:Name}{σ:FSt} (h:gW n σ) (o:Operand):(evO σ.s o).has n=false:=by
 cases o with
 |tmp t=>exact h.2.1 t
 | const v =>
  simp only[evO]
  cases v<;>first
   |rfl
   | (simp only[AV.ofValue,AV.has]
      have:dZ (λm=>m=n) (List.map (λx=>AV.v x) (Array.toList ‹_›)):=dZ.of_mem λx u=>by
        grind [Off.v]
      exact this n rfl)
 |global g=>rfl
 |func f=>rfl
theorem aGN (b:Blk) (p:Prop) [Decidable p] (n:Name):(if p then frz b else b).has n=b.has n:=by
 grind [aLP,Blk,frz]
theorem aKu {J I:Option Nat}{x y:AOp}{σ:FSt}{F H:Dl} (hx:Eff P J x σ F) (hy:Eff P I y (app J F σ) H) (hs:WF σ) (fx:qK x=true) (fy:qK y=true)
  (a1:∀t,J=some t->∀o,o∈aN y->o≠.tmp t) (a2:∀t,I=some t->∀o,o∈aN x->o≠.tmp t) (a3:∀t,J=some t->I≠some t)
  (j1:∀t,J=some t->σ.s t=.junk) (j2:∀t,I=some t->σ.s t=.junk) :
  Eff P I y σ H∧Eff P J x (app I H σ) F∧app J F (app I H σ)=app I H (app J F σ):=by
 obtain⟨nx,bx⟩:=hx.new;obtain⟨ny,Y⟩:=hy.new
 have O:∀n,F.nn n->¬H.nn n:=by
  grind
 have sx:∀o,Off F.nn (evO σ.s o):=λo n G=>by obtain⟨_,_,_,_,M⟩:=nx n G;exact M.off o
 have ha:∀n b,σ.h n=some b->aDG F.nn b:=λn b u m hm=>by obtain⟨_,_,_,_,M⟩:=nx m hm;exact M.2.2 n b u
 have hd:∀n,F.nn n->σ.h n=none:=λn G=>by obtain⟨_,_,_,_,M⟩:=nx n G;exact M.1.1
 have hg:=aH6 (d:=J) (σ:=σ) bx
 have U:∀n,H.nn n->gW n σ:=by
  intro n G;obtain⟨d2,i2,Z,rfl,M⟩:=ny n G;have hp:¬F.nn (.t d2 i2):=λh=>O _ h G;refine⟨⟨?_,M.1.2⟩,λt=>?_,λm b u=>?_⟩
  .have:=M.1.1;rw[aAh] at this;cases hσ:σ.h (.t d2 i2) with
   |none=>rfl
   |some b=>rw[hσ] at this;simp at this
  .by_cases V:J=some t
   .rw[j1 t V];rfl
   .have:=M.2.1 t
    rwa [qL V] at this
  .have h1:¬F.nn m:=λh=>by rw[hd m h] at u;cases u
   have h2:aB F.nb m=none:=by
    cases h:aB F.nb m with
    |none=>rfl
    |some b=>exact absurd (bx m b h) h1
   have:=M.2.2 m (if F.fz=true∧m∈F.L then frz b else b) (by rw[aAh,h2,u];rfl)
   rwa [aGN] at this
 have he:Eff P I y σ H:=by
  refine hy.move (N:=F.nn) fy (λo ho=>?_) hg.symm (λn b G u=>?_) U
  .have e:=aCA (δ:=F) (σ:=σ) (λt V=>a1 t V o ho);exact⟨e,by rw[e];exact sx o⟩
  .rw[aAh] at u
   have h2:aB F.nb n=none:=by
    cases h:aB F.nb n with
    |none=>rfl
    |some b=>exact absurd (bx n b h) G
   rw[h2,Dv] at u;cases hσ:σ.h n with
   |none=>rw[hσ] at u;cases u
   | some b0 =>
    rw[hσ] at u;obtain rfl:=Av u;intro m hm;rw[aGN];exact ha n b0 hσ m hm
 obtain ⟨ov,ob,oL⟩:=he.off (N:=F.nn) (λn G h=>O n h G) (λd' j hc h=>by
   obtain⟨d1,i1,e1,Z,_⟩:=nx _ h;simp only[Name.t.injEq] at Z;exact a3 d1 e1 (by rw[hc,Z.1])) hs (λo _=>sx o) (λn b _ u=>ha n b u)
 have hj:=aH6 (d:=I) (σ:=σ) Y;have sy:∀o,Off H.nn (evO σ.s o):=λo n G=>(U n G).off o
 have hl:Eff P J x (app I H σ) F:=by
  refine hx.move (N:=H.nn) fx (λo ho=>⟨(aCA (δ:=H) (σ:=σ) (λt V=>a2 t V o ho)).symm,sy o⟩) hj (λn b _ u m hm=>(U m hm).2.2 n b u) λn G=>?_;obtain⟨d1,i1,e1,rfl,M⟩:=nx n G;have hk:=O _ G;refine⟨⟨?_,M.1.2⟩,λt=>?_,λm b u=>?_⟩
  .rw[aAh,M.1.1];cases h:aB H.nb (.t d1 i1) with
   |none=>rfl
   |some b=>exact absurd (Y _ b h) hk
  .by_cases V:I=some t
   .subst V;rw[qB];exact ov _ G
   .rw[qL V];exact M.2.1 t
  .rw[aAh] at u;cases h:aB H.nb m with
   | some b' =>
    rw[h] at u;obtain rfl:=Av u;exact ob m _ h _ G
   | none =>
    rw[h,Dv] at u;cases hσ:σ.h m with
    |none=>rw[hσ] at u;cases u
    | some b0 =>
     rw[hσ] at u;obtain rfl:=Av u;rw[aGN];exact ha m b0 hσ _ G
 refine⟨he,hl,?_⟩
 obtain ⟨_,_,hq⟩:=hx.off (N:=H.nn) (λn G=>O n G) (λd' j hc h=>by
   obtain⟨d1,i1,e1,Z,_⟩:=ny _ h;simp only[Name.t.injEq] at Z;exact a3 d' hc (by rw[e1,Z.1])) hs (λo _=>sy o) (λn b _ u m hm=>(U m hm).2.2 n b u)
 have e1:(app J F (app I H σ)).s=(app I H (app J F σ)).s:=by
  funext t
  by_cases h1:J=some t
  .grind [qB,qL]
  .by_cases h2:I=some t
   all_goals grind [qL,qB]
 have Z:(app J F (app I H σ)).h=(app I H (app J F σ)).h:=by
  funext n
  simp only[aAh];cases h1:aB F.nb n with
  | some b1 =>
   have G:=bx n b1 h1
   have h2:aB H.nb n=none:=by
    cases h:aB H.nb n with
    |none=>rfl
    |some b=>exact absurd (Y n b h) (O n G)
   all_goals grind
  | none =>
   cases h2:aB H.nb n with
   | some b2 =>
    grind
   | none =>
    simp only[Dv];cases σ.h n with
    |none=>rfl
    | some b =>
     grind
 all_goals grind [app]
end
section
variable [Envs]
variable {P:Program}{C:Ctx}{a:Act}{w:World}{S:Nat->Prop}{ρ:Name->Option Nat}{κ:Name->Nat}
theorem aH2 {b c:Bool} (h:b≠c):b = !c:=by cases b<;>cases c<;>simp at h<;>rfl
def eY (o:aL):Bool:=qK o.op&&(wE o.op||o.dst.isSome)
def aHi:AOp:=.mv (.const (.tuple #[]))
def aCW (b:Bool) (o:aL):AOp:=if b then o.op else aHi
def EffS (P:Program) (b:Bool) (o:aL) (σ:FSt) (δ:Dl):Prop:=Eff P o.dst (aCW b o) σ δ
def runs (o:aL) (σ:FSt) (b:Bool):Prop:=
 match o.guard with
 |none=>b=true
 |some (g,want)=>(∃c,σ.s g=.v (.bool c)∧b=(c==want))∨((∃cs,σ.s g=.v (.tuple cs))∧b=false)
def yM (P:Program) (o:aL) (σ:FSt) (δ:Dl):Prop:=∃b,runs o σ b∧EffS P b o σ δ
def aDh (d:Option Nat) (σ σ':St):Prop:=∀t,d≠some t->look σ.s t=.junk->look σ'.s t=.junk
def vcE (P:Program) (K:FSt->Prop):List aL->FSt->Prop
 | [],σ=>K σ
 | o::r,σ=>if eY o=true then ∃δ,yM P o σ δ∧vcE P K r (app o.dst δ σ)
  else ∃σl:St,σl.f=σ∧vc P (fun σ'=>vcE P K r σ'.f∧aDh o.dst σl σ') [o] σl
theorem uS (d:Option Nat) (x:AV) (σ:St) (h:List (Name×Blk)):aDh d σ ⟨put d x σ.s,h⟩:=by
 intro t F u;show look (put d x σ.s) t=_
 rw[kH];cases d with
 |none=>exact u
 | some d =>
  grind [upd]
theorem aGp {d:Option Nat}{σ:St}{K:St->Prop}{op:AOp} (u:bN P d σ K op):bN P d σ (fun σ'=>K σ'∧aDh d σ σ') op:=by
 by_cases O:wE op=true
 .grind [aAB,uS]
 .have F:∀{op:AOp}{d':Nat},al (evO (look σ.s)) (aB σ.h) (.t d' 0) (λv b=>(dE (.t d' 0) σ=true∧b.has (.t d' 0)=false)∧K ⟨(d',v)::σ.s,(.t d' 0,b)::σ.h⟩) op->
    al (evO (look σ.s)) (aB σ.h) (.t d' 0) (λv b=>(dE (.t d' 0) σ=true∧b.has (.t d' 0)=false)∧K ⟨(d',v)::σ.s,(.t d' 0,b)::σ.h⟩∧aDh (some d') σ ⟨(d',v)::σ.s,(.t d' 0,b)::σ.h⟩) op:=by
   intro op d' u;obtain⟨x,b,⟨G,H⟩,I,_⟩:=yL u;exact I _ ⟨G,H,uS (some d') _ _ _⟩
  cases op
  case box x=>cases d with
   |none=>exact u
   |some d=>exact F (op:=.box x) (d':=d) u
  case alloc z=>cases d with
   |none=>exact u
   |some d=>exact F (op:=.alloc z) (d':=d) u
  case bslice k m z ps=>cases d with
   |none=>exact u
   |some d=>exact F (op:=.bslice k m z ps) (d':=d) u
  case mk k y z n=>cases d with
   |none=>exact u
   |some d=>exact F (op:=.mk k y z n) (d':=d) u
  case call f args bor =>
   simp only[bN,aDA] at u⊢;split at u
   .split at u
    .obtain⟨G,r,hout,fz,h2,H,I,M⟩:=u;exact⟨G,r,hout,fz,h2,H,I,M,uS _ _ _ _⟩
    .exact u
   .exact u
  all_goals try grind [bN,aDh,uS]
  case append k y A X =>
   cases d with
   |none=>exact u
   | some d =>
    simp only[bN] at u⊢;split at u
    .rename_i on l L _ _;refine⟨u.1,u.2,λt U J=>?_⟩
     have e:look ((d,AV.loc (.t d 0) 0 (l.length+L.length))::(aT on σ).s) t=look (aT on σ).s t:=by
      grind [look]
     show look ((d,AV.loc (.t d 0) 0 (l.length+L.length))::(aT on σ).s) t=_
     rw[e];cases on with
     |none=>exact J
     | some n =>
      simp only[aT,iK];rw[nM (scr n) (by simp[scr,AV.has]),J];simp[scr,AV.has]
    .exact u
  case appendC k y A X =>
   cases d with
   |none=>exact u
   | some d =>
    simp only[bN] at u⊢;split at u
    .rename_i on l L _ _;refine⟨u.1,u.2,λt U J=>?_⟩
     have e:look ((d,AV.sl k (l++L))::(aT on σ).s) t=look (aT on σ).s t:=by
      grind [look]
     show look ((d,AV.sl k (l++L))::(aT on σ).s) t=_
     rw[e];cases on with
     |none=>exact J
     | some n =>
      simp only[aT,iK];rw[nM (scr n) (by simp[scr,AV.has]),J];simp[scr,AV.has]
    .exact u
  case bsliceC k m z ps=>cases d with
   |none=>exact u
   | some d =>
    simp only[bN] at u⊢;obtain⟨x,b,⟨G,rows,h2,H,I⟩,M,_⟩:=yL (op:=.bslice k m z ps) u;exact M _ ⟨G,rows,h2,H,I,uS (some d) _ _ _⟩
  all_goals simp[wE] at O
theorem aCI {o:aL}{σ:St}{K:St->Prop} (u:vc P K [o] σ):vc P (fun σ'=>K σ'∧aDh o.dst σ σ') [o] σ:=by
 simp only[vc] at u⊢
 all_goals grind [aGp,lG,uS,St]
theorem aGo {d:Option Nat}{σ:St}{K G:St->Prop} (L:∀σ,K σ->G σ) {op:AOp} (u:bN P d σ K op):bN P d σ G op:=by
 by_cases O:wE op=true
 .grind [aAB,aCP]
 .have F:∀{op:AOp}{d':Nat},al (evO (look σ.s)) (aB σ.h) (.t d' 0) (λv b=>(dE (.t d' 0) σ=true∧b.has (.t d' 0)=false)∧K ⟨(d',v)::σ.s,(.t d' 0,b)::σ.h⟩) op->
    al (evO (look σ.s)) (aB σ.h) (.t d' 0) (λv b=>(dE (.t d' 0) σ=true∧b.has (.t d' 0)=false)∧G ⟨(d',v)::σ.s,(.t d' 0,b)::σ.h⟩) op:=by
   intro op d' u;obtain⟨x,b,⟨H,I⟩,J,_⟩:=yL u;exact J _ ⟨H,L _ I⟩
  cases op
  case box x=>cases d with
   |none=>exact u
   |some d=>exact F (op:=.box x) (d':=d) u
  case alloc z=>cases d with
   |none=>exact u
   |some d=>exact F (op:=.alloc z) (d':=d) u
  case bslice k m z ps=>cases d with
   |none=>exact u
   |some d=>exact F (op:=.bslice k m z ps) (d':=d) u
  case mk k y z n=>cases d with
   |none=>exact u
   |some d=>exact F (op:=.mk k y z n) (d':=d) u
  case call f args bor =>
   simp only[bN,aDA] at u⊢;split at u
   .split at u
    .obtain⟨H,r,hout,fz,h2,I,J,M⟩:=u;exact⟨H,r,hout,fz,h2,I,J,L _ M⟩
    .exact u
   .exact u
  all_goals try grind [bN]
  case append k y A X =>
   cases d with
   |none=>exact u
   | some d =>
    grind [bN]
  case appendC k y A X =>
   cases d with
   |none=>exact u
   | some d =>
    grind [bN]
  case bsliceC k m z ps=>cases d with
   |none=>exact u
   | some d =>
    grind [bN,yL]
  all_goals simp[wE] at O
theorem aCH {o:aL}{σ:St}{K u:St->Prop} (G:∀σ,K σ->u σ) (F:vc P K [o] σ):vc P u [o] σ:=by
 simp only[vc] at F⊢;split at F
 all_goals grind [aGo,lG]
theorem aK3 {o:aL}{r:List aL}{σ:St}{K:St->Prop}:vc P K (o::r) σ↔vc P (vc P K r) [o] σ:=Iff.rfl
theorem aI7 {K:St->Prop}:∀(ops:List aL) (σ:St),vc P K ops σ->vcE P (λf=>∃σ':St,σ'.f=f∧K σ') ops σ.f
 | [],σ,hv=>⟨σ,rfl,hv⟩
 | o::r,σ,hv=>by
  have O:=aI7 (K:=K) r;simp only[vcE];split
  .rename_i L;simp only[eY,Au,Cn] at L
   have run:bN P o.dst σ (vc P K r) o.op->∃δ,Eff P o.dst o.op σ.f δ∧vcE P (λf=>∃σ':St,σ'.f=f∧K σ') r (app o.dst δ σ.f):=λM=>by
    obtain⟨δ,u,σ',h2,J⟩:=aB3 L.1 L.2 M;exact⟨δ,u,by rw[←h2];exact O σ' J⟩
   have skip:vc P K r ⟨put o.dst (.v (.tuple #[])) σ.s,σ.h⟩->∃δ,Eff P o.dst aHi σ.f δ∧vcE P (λf=>∃σ':St,σ'.f=f∧K σ') r (app o.dst δ σ.f):=λM=>by
    obtain⟨δ,u,σ',h2,J⟩:=aB3 (P:=P) (d:=o.dst) (σ:=σ) (K:=vc P K r) (op:=aHi) rfl (.inl rfl) M;exact⟨δ,u,by rw[←h2];exact O σ' J⟩
   simp only[vc] at hv;split at hv
   .rename_i H;obtain⟨δ,u,h2⟩:=run hv;exact⟨δ,⟨true,by simp only[runs,H],u⟩,h2⟩
   .rename_i g G H;split at hv
    .rename_i b I;by_cases F:b=G
     .obtain⟨δ,u,h2⟩:=run ((lG.1 hv).1 F);exact⟨δ,⟨true,by simp only[runs,H];exact .inl ⟨b,I,by simp[F]⟩,u⟩,h2⟩
     .have U:b = !G:=aH2 F;obtain⟨δ,u,h2⟩:=skip ((lG.1 hv).2 U);exact⟨δ,⟨false,by simp only[runs,H];exact .inl ⟨b,I,by simp[F]⟩,u⟩,h2⟩
    .rename_i cs I;obtain⟨δ,u,h2⟩:=skip hv;exact⟨δ,⟨false,by unfold runs;rw[H];exact .inr ⟨⟨cs,I⟩,rfl⟩,u⟩,h2⟩
    .exact hv.elim
  .refine⟨σ,rfl,aCH (fun σ' h=>⟨O σ' h.1,h.2⟩) (aCI (aK3.1 hv))⟩
theorem aI8 {o:aL}{σ:St}{δ:Dl} (G:Canon σ) (J:yM P o σ.f δ):vc P (fun σ'=>σ'.f=app o.dst δ σ.f) [o] σ:=by
 obtain⟨b,u,h2⟩:=J
 have skip:b=false->(⟨put o.dst (.v (.tuple #[])) σ.s,σ.h⟩:St).f=app o.dst δ σ.f:=by
  rintro rfl;exact xD G h2
 simp only[vc];unfold runs at u;split
 .rename_i F;rw[F] at u;simp only at u;subst u;exact xD G h2
 .rename_i g H F;rw[F] at u;rcases u with⟨c,e,rfl⟩|⟨⟨cs,e⟩,I⟩
  .simp only[show look σ.s g=_ from e]
   all_goals grind [lG.2,aCW,EffS,xD]
  .simp only[show look σ.s g=_ from e];exact skip I
theorem aHv {ops:Array Oper}{Q:Exit->Act->World->Prop}{K:St->Prop}{i:Nat}{o:Oper}{ao:aL} (ho:ops[i]? = some o) (hc:nA P C.nt ops o=some ao.bare) {σ:St} (H:vc P K [ao] σ) (u:OK C σ.f a w S ρ κ) :
  wpOp P ops Q i (dP C K) a w:=by
 obtain⟨Z,h2,J,h4⟩:=iJ hc;have Y:bN P ao.dst σ K ao.op->o.wp P a w (dP C K) Q:=λM=>vU (P:=P) Z u J (by rw[h2];exact M);unfold wpOp;rw[ho];simp only[vc] at H;rcases h4 with⟨I,U⟩|⟨j,F,t,I,U,V⟩
 .grind [Region.wanted]
 .rw[U] at H;simp only at H;split at H
  .rename_i b L;have O:=yO u I V L;simp only[O];by_cases G:b=F
   .simp only[G,Dj,Bt];exact .inl (Y ((lG.1 H).1 G))
   .have:(b==F)=false:=by simpa using G
    simp only[this,A8,Bg];have hn:b = !F:=aH2 G;refine⟨_,S,ρ,κ,(lG.1 H).2 hn,?_⟩;have:=u.put (x:=.v undef) (v:=undef) (.clo (.v _)) J
    all_goals grind [St.f,kH,undef]
  .rename_i cs L;have O:=yN u I V L;simp only[O,A8,Bg];refine⟨_,S,ρ,κ,H,?_⟩;have:=u.put (x:=.v undef) (v:=undef) (.clo (.v _)) J
   all_goals grind [St.f,kH,undef]
  .exact H.elim
theorem aHc {ops:Array Oper}{K:Act->World->Prop}{i:Nat} (h:wpOp P ops (λ_ _ _=>False) i K a w):∃F w',K F w':=by
 unfold wpOp at h;split at h
 .exact⟨_,_,h⟩
 .split at h
  .rcases h with h|⟨_,_,_,h⟩
   .rename_i o _ _;unfold Oper.wp at h;generalize(execOp a.eval o).run P w=r at h;cases r with
    | ok n w' =>
     cases n<;>simp only[Oper.upon] at h
     case enter f args =>
      obtain⟨e,u,fr,h,_⟩:=h [];cases e with
      |returned v=>exact⟨_,_,h⟩
      |panicked ch=>exact h.elim
      |outgrown=>obtain⟨_,_,h⟩:=h;exact h.elim
     case row row args =>
      obtain⟨v,u,h,_⟩:=h (Frame.enter P 0 #[] .normal) [];exact⟨_,_,h⟩
     all_goals exact⟨_,_,h⟩
    |halt x w'=>cases x<;>simp only[Oper.upon] at h
   .exact h.elim
  .exact⟨_,_,h⟩
end
section
variable [Envs]
variable {P:Program}{C:Ctx}{a:Act}{w:World}{S:Nat->Prop}{ρ:Name->Option Nat}{κ:Name->Nat}
def tmpsOf:List Operand->List Nat
 | []=>[]
 |.tmp t::r=>t::tmpsOf r
 |_::r=>tmpsOf r
theorem vT:∀{l:List Operand}{t:Nat},t∉tmpsOf l->∀o,o∈l->o≠.tmp t
 | [],_,_,o,ho=>by cases ho
 | x::r,t,h,o,ho=>by
  rcases Ay.1 ho with rfl|ho
  .rintro rfl;simp[tmpsOf] at h
  .refine vT (l:=r) (λh'=>h ?_) o ho;cases x<;>simp[tmpsOf,h']
def oD (y:aL) (t:Nat):Bool:=(tmpsOf (aN y.op)).contains t||(match y.guard with|some (g,_)=>g==t|none=>false)
def kS (x y:aL):Bool:=
 (match x.dst with|some d=>!oD y d&&!(y.dst==some d)|none=>true)&&(match y.dst with|some d=>!oD x d|none=>true)
theorem aFd {x:aL}{d:Option Nat}{δ:Dl}{σ:FSt}{b:Bool} (h:∀t,d=some t->∀g w,x.guard=some (g,w)->g≠t):runs x (app d δ σ) b↔runs x σ b:=by
 unfold runs;split
 .exact Iff.rfl
 .rename_i g u F;rw[qL λe=>h g e g u F rfl]
theorem aIR {x y:aL}{σ:FSt}{J L:Dl} (U:yM P x σ J) (V:yM P y (app x.dst J σ) L) (hs:WF σ) (fx:eY x=true) (fy:eY y=true) (G:kS x y=true)
  (j1:∀t,x.dst=some t->σ.s t=.junk) (j2:∀t,y.dst=some t->σ.s t=.junk) :
  yM P y σ L∧yM P x (app y.dst L σ) J∧app x.dst J (app y.dst L σ)=app y.dst L (app x.dst J σ):=by
 simp only[kS,Au] at G
 have M:∀t,x.dst=some t->oD y t=false∧y.dst≠some t:=λt F=>by
  have:=G.1;rw[F] at this;simpa using this
 have Z:∀t,y.dst=some t->oD x t=false:=λt F=>by
  have:=G.2;rw[F] at this;simpa using this
 have u:∀{z:aL}{t:Nat},oD z t=false->(∀o,o∈aN z.op->o≠.tmp t)∧∀g w,z.guard=some (g,w)->g≠t:=by
  intro z t h;simp only[oD,Bool.or_eq_false_iff] at h;refine⟨vT (by simpa using h.1),λg w hg=>?_⟩;have:=h.2;rw[hg] at this;simpa using this
 obtain⟨bx,rx,U⟩:=U;obtain⟨H,ry,V⟩:=V;rw[aFd λt F=>(u (M t F).1).2] at ry;have Y:∀δ,runs x (app y.dst δ σ) bx:=fun δ=>(aFd λt F=>(u (Z t F)).2).2 rx;simp only[eY,Au] at fx fy
 have I:∀(b:Bool) (z:aL),qK z.op=true->qK (aCW b z)=true:=by
  intro b z h;cases b
  .rfl
  .exact h
 have ops:∀(b:Bool) (z:aL) (t:Nat),(∀o,o∈aN z.op->o≠.tmp t)->∀o,o∈aN (aCW b z)->o≠.tmp t:=by
  intro b z t h o O;cases b
  .simp only[aCW,aHi,aN,A8,Bg,Ar] at O;subst O;simp
  .exact h o O
 obtain⟨h1,h2,h3⟩:=aKu (x:=aCW bx x) (y:=aCW H y) U V hs (I _ _ fx.1) (I _ _ fy.1) (λt F=>ops _ _ t (u (M t F).1).1) (λt F=>ops _ _ t (u (Z t F)).1) (λt F=>(M t F).2) j1 j2;exact⟨⟨H,ry,h1⟩,⟨bx,Y _,h2⟩,h3⟩
def atL (aops:List aL) (r:List Nat):List aL:=r.filterMap λi=>aops[i]?
def Real (C:Ctx) (σ:FSt):Prop:=∃(σl:St) (a:Act) (w:World) (S:Nat->Prop) (ρ:Name->Option Nat) (κ:Name->Nat),σl.f=σ∧OK C σl.f a w S ρ κ
structure Pair (x y:aL):Prop where
 fx:eY x=true
 fy:eY y=true
 ap:kS x y=true
theorem aFn {ops:Array Oper}{i:Nat}{o:Oper}{ao:aL}{σ:FSt}{δ:Dl} (L:ops[i]? = some o) (I:nA P C.nt ops o=some ao.bare) (M:Real C σ) (J:yM P ao σ δ):Real C (app ao.dst δ σ):=by
 obtain⟨G,a,w,S,ρ,κ,rfl,u⟩:=M;have O:=aI8 (P:=P) (o:=ao) (σ:=canon G) (δ:=δ) (aBe G) (by rw[l7];exact J);obtain⟨H,w',σ',S',ρ',κ',F,h2⟩:=aHc (aHv (Q:=λ_ _ _=>False) L I O (by rw[l7];exact u));rw[l7] at F;exact⟨σ',H,w',S',ρ',κ',F,h2⟩
/-! ## a value that is copied, and a write behind it -/
def aE3:AOp->Option (Operand×Option Nat)
 |.mv o=>some (o,none)
 |.extract o i=>some (o,some i)
 |_=>none
def aAS:AOp->Bool
 |.mv _=>true
 |.extract _ _=>true
 |.bin _ _ _=>true
 |.conv _ _=>true
 |_=>false
def aIG:AOp->Prop
 |.loadV _ _ _=>True
 |.fieldV _ _=>True
 |_=>False
structure aGj (x y:aL):Prop where
 fx:eY x=true
 fy:eY y=false
 g:y.guard=none
 ap:kS x y=true
 k:(∃k A X,y.op=.store k A X∧aAS x.op=true)∨∃k b A X o,(y.op=.append k b A X∨y.op=.appendC k b A X)∧(x.op=.mv o∨aIG x.op)
theorem aF0 {d:Option Nat}{op:AOp}{o:Operand}{oi:Option Nat}{σ σ':FSt}{δ:Dl} (F:aE3 op=some (o,oi)) (M:Eff P d op σ δ) (e:evO σ'.s o=evO σ.s o):Eff P d op σ' δ∧δ.nb=[]∧δ.fz=false:=by
 cases M with
 | rd v h1 h2 h3 =>
  refine⟨?_,rfl,rfl⟩;cases op<;>simp only[aE3,Aj,AZ] at F<;>try(cases F;done)
  case mv x =>
   obtain⟨rfl,rfl⟩:=F;have G:=h2 (λu=>u=v) rfl;simp only[rd] at G;refine .rd v rfl (λK H=>?_) λp I _=>?_
   .simp only[rd];rw[e,G];exact H
   .have:=I x (by simp[aN]);rwa [e,G] at this
  case extract x i =>
   obtain⟨rfl,rfl⟩:=F;have G:=h2 (λu=>u=v) rfl;simp only[rd] at G;split at G
   .rename_i c J;refine .rd v rfl (λK H=>?_) λp I _=>?_
    .simp only[rd];rw[e,J];exact⟨G.1,by rw[G.2];exact H⟩
    .have:=I x (by simp[aN]);rw[e,J] at this;rw[←G.2];exact Nm.getD this.aA3 _
   .exact G.elim
 | al d' hd v b h1 hf hn h2 h3 =>
  exfalso;have:=h1 (λ_ _=>True) trivial;cases op<;>simp only[aE3] at F<;>first|(cases F;done)|exact this.elim
 | call d' hd f args hop' g caps hg ys L hm r hout fz hfn hflat hfr =>
  subst hop';simp[aE3] at F
theorem aKv {d:Option Nat}{op:AOp}{σ σ':FSt}{δ:Dl} (F:aAS op=true) (J:Eff P d op σ δ) (e:∀o,o∈aN op->evO σ'.s o=evO σ.s o):Eff P d op σ' δ∧δ.nb=[]∧δ.fz=false:=by
 cases J with
 | rd v h1 h2 h3 =>
  refine⟨?_,rfl,rfl⟩;cases op<;>simp only[aAS] at F<;>try(cases F;done)
  case mv x =>
   exact(aF0 (o:=x) (oi:=none) rfl (.rd v h1 h2 h3) (e x (by simp[aN]))).1
  case extract x i =>
   exact(aF0 (o:=x) (oi:=some i) rfl (.rd v h1 h2 h3) (e x (by simp[aN]))).1
  case bin b x y =>
   have G:=h2 (λu=>u=v) rfl
   have H:∃z,v=.v z:=by
    simp only[rd] at G;split at G
    .unfold aGe at G;cases b<;>exact⟨_,G.2.symm⟩
    .exact G.elim
   obtain⟨z,rfl⟩:=H;refine .rd _ rfl (λK I=>?_) λp _ _=>.v _ _;have:=h2 K I;simp only[rd] at this⊢;rw[e x (by simp[aN]),e y (by simp[aN])];exact this
  case conv k x =>
   have G:=h2 (λu=>u=v) rfl
   have H:∃z,v=.v z:=by
    simp only[rd] at G;split at G
    .exact⟨_,G.symm⟩
    .exact G.elim
   obtain⟨z,rfl⟩:=H;refine .rd _ rfl (λK I=>?_) λp _ _=>.v _ _;have:=h2 K I;simp only[rd] at this⊢;rw[e x (by simp[aN])];exact this
 | al d' hd v b h1 hf hn h2 h3 =>
  exfalso;have:=h1 (λ_ _=>True) trivial;cases op<;>simp only[aAS] at F<;>first|(cases F;done)|exact this.elim
 | call d' hd f args hop' g caps hg ys L hm r hout fz hfn hflat hfr =>
  subst hop';simp[aAS] at F
theorem aDz {σ:St} (F:Canon σ) (on:Option Name):Canon (aT on σ):=by
 cases on with
 |none=>exact F
 | some n =>
  refine⟨λp u=>?_,λp u=>?_⟩
  .simp only[aT,iK] at u⊢;obtain⟨q,G,rfl⟩:=BG.1 u;simp only;rw[nM (scr n) (by simp[scr,AV.has]),F.1 q G]
  .simp only[aT,iK] at u⊢;obtain⟨q,G,rfl⟩:=BG.1 u;obtain⟨H,h2⟩:=BN.1 G;simp only[Bz,BH] at h2;simp only;rw[sJ,AJ h2,F.2 q H];rfl
theorem eX {σ:St}{on:Option Name} (t:Nat):look (aT on σ).s t=match on with|some n=>scr n (look σ.s t)|none=>look σ.s t:=by
 cases on with
 |none=>rfl
 | some n =>
  simp only[aT,iK];rw[nM (scr n) (by simp[scr,AV.has])]
theorem eT {σ:St}{on:Option Name} (m:Name):aB (aT on σ).h m=match on with|some n=>if m=n then none else(aB σ.h m).map (aBl n)|none=>aB σ.h m:=by
 cases on with
 |none=>rfl
 | some n =>
  simp only[aT,iK];rw[sJ]
theorem aI1 {k:Nat}{h:Name->Option Blk}{x:AV}{on:Option Name}{l:List (List AV)} (u:aB9 k h x=some (on,l)):∀n,on=some n->∃k l z,h n=some (.arr k l z):=by
 intro n F;subst F;unfold aB9 at u;split at u
 .simp at u
 .split at u
  .rename_i H I z G;split at u
   .simp only[Aj,AZ] at u;obtain⟨rfl,_⟩:=u;exact⟨_,_,_,G⟩
   .cases u
  .cases u
 .cases u
def fV:Option Name->AV->AV
 |some n,x=>scr n x
 |none,x=>x
theorem aJt (on:Option Name) (x:Value):fV on (.v x)=.v x:=by cases on<;>simp[fV,scr,AV.has]
theorem aBk (on:Option Name):fV on .junk=.junk:=by cases on<;>simp[fV,scr,AV.has]
theorem aAj {on:Option Name}:∀{l:List AV},l.all rP=true->l.map (fV on)=l
 | [],_=>rfl
 | x::r,h=>by
  simp only[BO,Au] at h;rw[AU,aAj h.2];cases x<;>simp[rP] at h;rw[aJt]
theorem aBT {on:Option Name}:∀{l:List AV},(l.map (fV on)).all rP=true->l.map (fV on)=l
 | [],_=>rfl
 | x::r,h=>by
  simp only[AU,BO,Au] at h;rw[AU,aBT h.2];congr 1;cases on with
  |none=>rfl
  | some n =>
   simp only[fV,scr] at h⊢;split
   .rename_i hh;rw[AY hh] at h;simp[rP] at h
   .rfl
theorem aAt {n:Name}:∀{l:List AV},l.all rP=true->lJ n l=false
 | [],_=>rfl
 | x::r,h=>by
  simp only[BO,Au] at h;simp only[lJ,aAt h.2,Bool.or_false];cases x<;>simp[rP] at h;rfl
theorem aAG {on:Option Name}{m:Name}{e c:Nat} (h:∀n,on=some n->m≠n):fV on (.ptr m e c)=.ptr m e c:=by
 cases on with
 |none=>rfl
 |some n=>simp[fV,scr,AV.has,h n rfl]
theorem aAF {on:Option Name}{x:AV}{m:Name}{e c:Nat} (h:fV on x=.ptr m e c):x=.ptr m e c∧∀n,on=some n->m≠n:=by
 cases on with
 |none=>exact⟨h,λn h=>by cases h⟩
 | some n =>
  simp only[fV,scr] at h;split at h
  .cases h
  .rename_i hh;subst h;refine⟨rfl,λF u=>?_⟩;obtain rfl:=Av u;simpa[AV.has] using hh
theorem aCl (f:AV->AV) (cs:List AV) (z:Bool) (e:Nat):(Blk.var (cs.map f) z).row e=((Blk.var cs z).row e).map f:=by cases e<;>rfl
theorem aEF {on:Option Name}{g:Bool}{l:List AV} (h:(!g||l.all rP)=true):AV.mk g (l.map (fV on))=fV on (AV.mk g l):=by
 cases g with
 | false =>
  simp only[AV.mk,A8,Bg];cases l with
  |nil=>exact(aBk on).symm
  |cons x r=>rfl
 | true =>
  simp only[BP,De] at h;simp only[AV.mk,Bt];rw[aAj h];cases on with
  |none=>rfl
  |some n=>simp[fV,scr,AV.has,aAt h]
theorem aIC {d:Option Nat}{op:AOp}{σ τ:FSt}{δ:Dl}{on:Option Name} (hj:aIG op) (he:Eff P d op σ δ)
  (U:∀o,o∈aN op->evO τ.s o=fV on (evO σ.s o)) (hc:∀n,on=some n->∃k l z,σ.h n=some (.arr k l z))
  (hh:∀m c z,σ.h m=some (.var c z)->τ.h m=some (.var (c.map (fV on)) z)):Eff P d op τ ⟨fV on δ.v,[],false,[],λ_=>False⟩:=by
 have M:∀{m:Name}{c:List AV}{z:Bool},σ.h m=some (.var c z)->∀n,on=some n->m≠n:=by
  intro m c z hm n hn e;obtain⟨k,l,z',h⟩:=hc n hn;rw[←e,hm] at h;cases h
 cases op<;>simp only[aIG] at hj
 case loadV g k a =>
  cases he with
  | rd v h1 h2 h3 =>
   have F:=h2 (λu=>u=v) rfl;have I:=U a (by simp[aN]);simp only[rd] at F;split at F
   .rename_i m e c hx;split at F
    .rename_i cs z O;rw[hx,aAG (M O)] at I;have H:=hh m cs z O;obtain⟨⟨hl,V⟩,rfl⟩:=F
     have Y:((((Blk.var (cs.map (fV on)) z).row e).drop c).take k)=((((Blk.var cs z).row e).drop c).take k).map (fV on):=by
      rw[aCl,Cz,CW]
     have ep:((!g||(((((Blk.var cs z).row e).drop c).take k).map (fV on)).all rP)=true):=by
      cases g with
      |false=>rfl
      | true =>
       simp only[BP,De] at V⊢;rw[aAj V];exact V
     refine .rd _ rfl (λK Z=>?_) λp J hq=>?_
     .simp only[rd,I,H];refine⟨⟨by rw[aCl,BC];exact hl,by rw[Y];exact ep⟩,?_⟩;rw[Y,aEF V];exact Z
     .have G:=J a (by simp[aN]);rw[I] at G;rw[←aEF V,←Y];exact NmL.mk (NmL.take (NmL.drop ((hq m _ G.eG H).row e) _) _)
    .exact F.elim
   .exact F.elim
  |al d' hd v b h1 hf hn h2 h3=>exact(h1 (λ_ _=>True) trivial).elim
  |call d' hd f args hop' g caps hg ys L hm r hout fz hfn hflat hfr=>cases hop'
 case fieldV off x =>
  cases he with
  | rd v h1 h2 h3 =>
   have F:=h2 (λu=>u=v) rfl;have I:=U x (by simp[aN]);simp only[rd] at F;split at F
   .rename_i m e c hx;split at F
    .rename_i cs z O;rw[hx,aAG (M O)] at I;have H:=hh m cs z O;subst F;simp only[aAG (M O)];refine .rd _ rfl (λK Z=>?_) λp J hq=>?_
     .simp only[rd,I,H];exact Z
     .have G:=J x (by simp[aN]);rw[I] at G;exact .ptr _ _ _ _ G.eG
    .exact F.elim
   .exact F.elim
  |al d' hd v b h1 hf hn h2 h3=>exact(h1 (λ_ _=>True) trivial).elim
  |call d' hd f args hop' g caps hg ys L hm r hout fz hfn hflat hfr=>cases hop'
theorem aIS {d:Option Nat}{op:AOp}{σ:FSt}{δ:Dl} (u:wE op=true) (F:Eff P d op σ δ):δ.nb=[]∧δ.fz=false:=by
 cases F with
 |rd v h1 h2 h3=>exact⟨rfl,rfl⟩
 | al d' hd v b h1 hf hn h2 h3 =>
  exfalso;have:=h1 (λ_ _=>True) trivial;cases op<;>simp only[wE] at u<;>first|(cases u;done)|exact this.elim
 |call d' hd f args hop' g caps hg ys L hm r hout fz hfn hflat hfr=>subst hop';cases u
theorem aIL {x y:aL}{σ:FSt}{F I:St}{Y:Dl}{K:FSt->Prop} (hx:yM P x σ Y) (hp:aGj x y) (h0:F.f=σ) (j1:∀t,x.dst=some t->σ.s t=.junk) (hl:I.f=app x.dst Y σ)
  (H:vc P (fun σ'=>K σ'.f) [y] I):∃σ2:St,σ2.f=σ∧vc P (fun σ'=>∃δ',yM P x σ'.f δ'∧K (app x.dst δ' σ'.f)) [y] σ2:=by
 subst h0;have hu:=hp.ap;simp only[kS,Au] at hu
 have a0:∀t,x.dst=some t->oD y t=false∧y.dst≠some t:=λt V=>by
  have:=hu.1;rw[V] at this;simpa using this
 have b0:∀t,y.dst=some t->oD x t=false:=λt V=>by
  have:=hu.2;rw[V] at this;simpa using this
 have hk:∀{z:aL}{t:Nat},oD z t=false->(∀o,o∈aN z.op->o≠.tmp t)∧∀g w,z.guard=some (g,w)->g≠t:=by
  intro z t h;simp only[oD,Bool.or_eq_false_iff] at h;refine⟨vT (by simpa using h.1),λg w hg=>?_⟩;have:=h.2;rw[hg] at this;simpa using this
 obtain⟨b,rx,he⟩:=hx
 have qd:wE (aCW b x)=true:=by
  cases b
  .rfl
  .rcases hp.k with⟨_,_,_,_,h⟩|⟨_,_,_,_,o,_,h⟩
   .show wE x.op=true
    revert h;cases x.op<;>intro h<;>first|rfl|simp[aAS] at h
   .show wE x.op=true
    rcases h with h|h
    .rw[h];rfl
    .revert h;cases x.op<;>intro h<;>first|rfl|exact h.elim
 have ho:Y.nb=[]∧Y.fz=false:=aIS qd he
 have hh:∀(d:Option Nat) (τ:FSt) (δ:Dl),δ.nb=[]->δ.fz=false->(app d δ τ).h=τ.h:=by
  intro d τ δ e1 e2
  funext n
  rw[aAh,e1,e2];simp[aB]
 have es:∀t,look I.s t=(app x.dst Y F.f).s t:=λt=>congrFun (Bd FSt.s hl) t
 have eh:aB I.h=aB F.h:=by
  have:=Bd FSt.h hl;rw[hh _ _ _ ho.1 ho.2] at this;exact this
 have ev:∀z,z∈aN y.op->evO (look I.s) z=evO (look F.s) z:=by
  intro z hz
  have e:evO (look I.s) z=evO (app x.dst Y F.f).s z:=by
   cases z<;>first|rfl|exact es _
  rw[e];exact aCA λt V=>(hk (a0 t V).1).1 z hz
 simp only[vc,hp.g] at H;rcases hp.k with⟨k,A,X,hy,qm⟩|⟨k,qp,A,X,o',hy,J⟩
 .have qc:aAS (aCW b x)=true:=by
   cases b
   .rfl
   .exact qm
  rw[hy] at H ev;refine⟨F,rfl,?_⟩;simp only[vc,hp.g,hy];simp only[bN] at H⊢;refine⟨H.1,?_⟩;have H:=H.2;rw[ev A (by simp[aN]),ev X (by simp[aN]),eh] at H;split at H
  .rename_i n e c hA;split at H
   .rename_i U cs hb qq;refine⟨H.1,?_⟩;have hK:=H.2
    have hr:((⟨I.s,hset n (U.setRow e (lay (U.row e) c cs)) I.h⟩:St)).f=app x.dst Y (⟨F.s,hset n (U.setRow e (lay (U.row e) c cs)) F.h⟩:St).f:=by
     have e1:(⟨I.s,hset n (U.setRow e (lay (U.row e) c cs)) I.h⟩:St).f.s=(app x.dst Y (⟨F.s,hset n (U.setRow e (lay (U.row e) c cs)) F.h⟩:St).f).s:=funext λt=>es t
     have e2:(⟨I.s,hset n (U.setRow e (lay (U.row e) c cs)) I.h⟩:St).f.h=(app x.dst Y (⟨F.s,hset n (U.setRow e (lay (U.row e) c cs)) F.h⟩:St).f).h:=by
      rw[hh _ _ _ ho.1 ho.2];simp only[St.f,wJ,eh]
     exact congr (Bd FSt.mk e1) e2
    refine⟨Y,⟨b,?_,?_⟩,by rw[←hr];exact hK⟩
    .unfold runs at rx⊢;exact rx
    .exact(aKv (σ':=(⟨F.s,hset n (U.setRow e (lay (U.row e) c cs)) F.h⟩:St).f) qc he λ_ _=>rfl).1
   .exact H.elim
  .exact H.elim
 .have hq:∀(d:Nat),y.dst=some d->∀(v0:AV) (B:List (Name×Blk)->List (Name×Blk)) (on:Option Name),(∀h h',aB h=aB h'->aB (B h)=aB (B h'))->(∀h m,m≠.t d 0->aB (B h) m=aB h m)->aB (aT on I).h (.t d 0)=none->(∀n,on=some n->∃k l z,aB F.h n=some (.arr k l z))->
    K (⟨(d,v0)::(aT on I).s,B (aT on I).h⟩:St).f->∃δ',yM P x (⟨(d,v0)::(aT on (canon F)).s,B (aT on (canon F)).h⟩:St).f δ'∧K (app x.dst δ' (⟨(d,v0)::(aT on (canon F)).s,B (aT on (canon F)).h⟩:St).f):=by
   intro d hd v0 B on hB qf G ha hK;have O:∀t,look (canon F).s t=look F.s t:=λt=>congrFun (Bd FSt.s (l7 F)) t;have Z:aB (canon F).h=aB F.h:=Bd FSt.h (l7 F);have qh:∀t,x.dst=some t->d≠t:=λt V e=>(a0 t V).2 (by rw[hd,e])
   let τ:St:=⟨(d,v0)::(aT on (canon F)).s,B (aT on (canon F)).h⟩
   let v':AV:=match on with|some n=>scr n Y.v|none=>Y.v
   have hr:(⟨(d,v0)::(aT on I).s,B (aT on I).h⟩:St).f=app x.dst ⟨v',[],false,[],λ_=>False⟩ τ.f:=by
    have e1:(⟨(d,v0)::(aT on I).s,B (aT on I).h⟩:St).f.s=(app x.dst ⟨v',[],false,[],λ_=>False⟩ τ.f).s:=by
     funext t
     simp only[St.f,look,eX];by_cases V:x.dst=some t
     .have h2:=qh t V;rw[AJ (λe=>h2 e.symm)];have e3:=es t;rw[V] at e3⊢;rw[qB] at e3;rw[qB,e3];cases on<;>rfl
     .rw[qL V];have e3:=es t;rw[qL V] at e3;simp only[τ,look,eX,O];rw[e3];rfl
    have e2:(⟨(d,v0)::(aT on I).s,B (aT on I).h⟩:St).f.h=(app x.dst ⟨v',[],false,[],λ_=>False⟩ τ.f).h:=by
     rw[hh _ _ _ rfl rfl];refine hB _ _ (funext λm=>?_);simp only[eT,eh,Z]
    exact congr (Bd FSt.mk e1) e2
   have hτ:∀z,z∈aN x.op->z≠.tmp d:=λz hz=>(hk (b0 d hd)).1 z hz;refine⟨⟨v',[],false,[],λ_=>False⟩,⟨b,?_,?_⟩,by show K (app x.dst _ τ.f);rw[←hr];exact hK⟩
   .unfold runs at rx⊢;split at rx
    .exact rx
    .rename_i g qe hg;have qa:=(hk (b0 d hd)).2 g qe hg;rcases rx with⟨c,hc,hw⟩|⟨⟨cs,hc⟩,hw⟩
     .refine .inl ⟨c,?_,hw⟩;simp only[St.f,look];rw[AJ qa,eX,O];simp only[St.f] at hc;rw[hc];cases on<;>simp[scr,AV.has]
     .refine .inr ⟨⟨cs,?_⟩,hw⟩;simp only[St.f,look];rw[AJ qa,eX,O];simp only[St.f] at hc;rw[hc];cases on<;>simp[scr,AV.has]
   .-- the copied value, behind the write
    have hj:(∃o2,aCW b x=.mv o2∧o2≠.tmp d)∨aIG (aCW b x):=by
     cases b
     .exact .inl ⟨_,rfl,by simp⟩
     .rcases J with J|J
      .exact .inl ⟨o',J,hτ o' (by rw[J];simp[aN])⟩
      .exact .inr J
    rcases hj with hj|hlv
    rotate_left
    .have qg:b=true:=by
      cases b
      .exact hlv.elim
      .rfl
     subst qg;have qb:aIG x.op:=hlv
     have h7:Eff P x.dst x.op τ.f ⟨fV on Y.v,[],false,[],λ_=>False⟩:=by
      refine aIC qb he (λz hz=>?_) (λn hn=>?_) (λm c z hm=>?_)
      .have qo:=hτ z hz;show evO (look τ.s) z=fV on (evO (look F.s) z)
       revert hz;cases hxe:x.op<;>intro hz<;>simp only[hxe,aIG] at qb
       all_goals
        cases z with
        | tmp t =>
         have h5:t≠d:=λe=>qo (by rw[e]);simp only[evO,τ,look];rw[AJ h5,eX,O];cases on<;>rfl
        | const w =>
         simp only[evO];cases on with
         |none=>rfl
         | some n =>
          simp only[fV,scr];rw[AJ];cases w<;>simp[AV.ofValue,AV.has];rename_i cs
          have:dZ (λm=>m=n) (List.map (λx=>AV.v x) (Array.toList cs)):=dZ.of_mem λx hx=>by
           obtain⟨y,_,rfl⟩:=BG.1 hx;exact Off.v _
          exact this n rfl
        |global g=>simp only[evO];exact(aBk on).symm
        |func f=>simp only[evO];cases on<;>simp[fV,scr,AV.has,lJ]
      .exact ha n hn
      .have qj:m≠.t d 0:=by
        rintro rfl;rw[eT,eh] at G;simp only[St.f] at hm;cases on with
        |none=>simp only at G;rw[hm] at G;cases G
        | some n =>
         obtain⟨k',l',z',hn⟩:=ha n rfl;simp only at G;split at G
         .rename_i e;rw[←e,hm] at hn;cases hn
         .rw[hm] at G;cases G
       show aB τ.h m=_
       simp only[τ];rw[qf _ _ qj,eT,Z];simp only[St.f] at hm;cases on with
       |none=>rw[show c.map (fV none)=c by rw[show fV none=id from rfl];simp];exact hm
       | some n =>
        obtain⟨k',l',z',hn⟩:=ha n rfl;have qi:m≠n:=λe=>by rw[←e,hm] at hn;cases hn
        simp only;rw[AJ qi,hm];rfl
     have ev':v'=fV on Y.v:=by cases on<;>rfl
     rw[ev'];exact h7
    obtain⟨o2,hj,qk⟩:=hj;unfold EffS at he⊢;rw[hj] at he⊢;cases he with
    | rd v h1 h2 h3 =>
     have M:=h2 (λu=>u=v) rfl;simp only[rd] at M
     have h8:evO τ.f.s o2=v':=by
      show evO (look τ.s) o2=v'
      cases o2 with
      | tmp t =>
       have h5:t≠d:=λe=>qk (by rw[e]);simp only[evO,τ,look];rw[AJ h5,eX,O];simp only[evO,St.f] at M;rw[M];cases on<;>rfl
      | const w =>
       simp only[evO] at M⊢;simp only[v'];rw[←M];cases on with
       |none=>rfl
       | some n =>
        simp only[scr];rw[AJ];cases w<;>simp[AV.ofValue,AV.has];rename_i cs
        have:dZ (λm=>m=n) (List.map (λx=>AV.v x) (Array.toList cs)):=dZ.of_mem λx hx=>by
         obtain⟨y,_,rfl⟩:=BG.1 hx;exact Off.v _
        exact this n rfl
      | global g =>
       simp only[evO] at M⊢;simp only[v'];rw[←M];cases on<;>simp[scr,AV.has]
      | func f =>
       simp only[evO] at M⊢;simp only[v'];rw[←M];cases on<;>simp[scr,AV.has,lJ]
     refine .rd v' rfl (λK hK=>?_) λp ql _=>?_
     .simp only[rd];rw[h8];exact hK
     .have:=ql o2 (by simp[aN]);rwa [h8] at this
    |al d' hd' v b h1 hf hn h2 h3=>exact(h1 (λ_ _=>True) trivial).elim
    |call d' hd' f args hop' g caps hg ys L hm r hout fz G hflat h9=>cases hop'
  have O:∀t,look (canon F).s t=look F.s t:=λt=>congrFun (Bd FSt.s (l7 F)) t;have Z:aB (canon F).h=aB F.h:=Bd FSt.h (l7 F)
  have h6:∀z,evO (look (canon F).s) z=evO (look F.s) z:=by
   intro z;cases z<;>first|rfl|exact O _
  have hs:∀(d:Nat),y.dst=some d->∀(on:Option Name),dE (.t d 0) (aT on I)=true->dE (.t d 0) (aT on (canon F))=true:=by
   intro d hd on hf
   have h9:gW (.t d 0) (aT on (canon F)).f:=by
    have h1:=dV hf;refine⟨⟨?_,h1.1.2⟩,λt=>?_,λm U h4=>?_⟩
    .have:=h1.1.1;simp only[St.f,eT] at this⊢;rw[Z,←eh];exact this
    .have:=h1.2.1 t;simp only[St.f,eX] at this⊢;rw[O];by_cases V:x.dst=some t
     .have:=j1 t V;simp only[St.f] at this;rw[this];cases on with
      |none=>rfl
      |some n=>simp[scr,AV.has]
     .have e2:=es t;rw[qL V] at e2;rw[e2] at this;exact this
    .refine h1.2.2 m U ?_;simp only[St.f,eT] at h4⊢;rw[Z,←eh] at h4;exact h4
   exact zS (aDz (aBe F) on) rfl h9
  refine⟨canon F,l7 F,?_⟩;rcases hy with hy|hy<;>rw[hy] at H ev
  all_goals
   cases hd:y.dst with
   |none=>rw[hd] at H;exact H.elim
   | some d =>
    rw[hd] at H;simp only[vc,hp.g,hy,hd];simp only[bN] at H⊢;rw[ev A (by simp[aN]),ev X (by simp[aN]),eh] at H;rw[h6 A,h6 X,Z];split at H
    .rename_i on l l' hA hX;obtain⟨⟨hf,qn⟩,hK⟩:=H;refine⟨⟨hs d hd on hf,qn⟩,?_⟩;have ha:=aI1 hA;have G:=yA hf
     first
      |exact hq d hd (.loc (.t d 0) 0 (l.length+l'.length)) (λh=>(.t d 0,.arr k (l++l') false)::h) on (λh h' e=>by funext m;simp only[aB,e]) (λh m hm=>by simp only[aB];rw[AJ hm]) G ha hK
      |exact hq d hd (.sl k (l++l')) (λh=>h) on (λh h' e=>e) (λh m hm=>rfl) G ha hK
    .exact H.elim
theorem aKQ {ops:Array Oper}{K:FSt->Prop}{y:aL}:∀(u G:List aL) (σ:FSt),(∀x,x∈u->aGj x y∧∃(i:Nat) (o:Oper),ops[i]? = some o∧nA P C.nt ops o=some x.bare)->
  (u.Pairwise λx x'=>∀t,x'.dst=some t->x.dst≠some t)->Real C σ->(∀x,x∈u->∀t,x.dst=some t->σ.s t=.junk)->
  vcE P K (u++y::G) σ->vcE P K (y::(u++G)) σ
 | [],G,σ,_,_,_,_,hv=>hv
 | x::u,G,σ,hp,hd,hr,j1,hv=>by
  obtain⟨F,i,o,ho,Z⟩:=hp x (by simp);have I:=F.fx;have J:=F.fy;simp only[Ad,vcE,I,Bt] at hv;obtain⟨δx,L,h2⟩:=hv
  have:=aKQ u G (app x.dst δx σ) (λz H=>hp z (by simp[H])) hd.tail (aFn ho Z hr L) (λz H t M=>by
    rw[qL ((Dn hd H) t M)];exact j1 z (by simp[H]) t M) h2
  simp only[vcE,J,A8,Bg] at this;obtain⟨σl,O,U⟩:=this;obtain⟨σ0,a,w,S,ρ,κ,e,ha⟩:=hr;obtain⟨σ2,V,Y⟩:=aIL (K:=λf=>vcE P K (u++G) f) L F e (j1 x (by simp)) O (aCH (λ_ h=>h.1) U);simp only[vcE,J,I,A8,Bg,Bt,Ad];refine⟨σ2,V,aCI (aCH (fun σ' h=>?_) Y)⟩;exact h
def aBS:AOp->Bool
 |.mv _=>true
 |.bin _ _ _=>true
 |.slc _ _ _ _=>true
 |_=>false
structure aGi (x y:aL):Prop where
 fx:eY x=false
 fy:eY y=true
 gx:x.guard=none
 gy:y.guard=none
 ap:kS x y=true
 kx:∃k b A X,x.op=.append k b A X∨x.op=.appendC k b A X
 ky:((∃k a,y.op=.loadV true k a)∨∃o a,y.op=.fieldV o a)∨aBS y.op=true
theorem aIA {d:Option Nat}{op:AOp}{σ τ:FSt}{δ:Dl}{on:Option Name} (hk:(∃k a,op=.loadV true k a)∨∃o a,op=.fieldV o a) (he:Eff P d op τ δ) {new:Name}
  (hc:∀o,o∈aN op->evO τ.s o=fV on (evO σ.s o)) (hj:∀o,o∈aN op->(evO τ.s o).has new=false)
  (hh:∀m c z,m≠new->(∀n,on=some n->m≠n)->τ.h m=some (.var c z)->∃O,σ.h m=some (.var O z)∧c=O.map (fV on)) :
  Eff P d op σ ⟨δ.v,[],false,[],λ_=>False⟩∧fV on δ.v=δ.v∧δ.v.has new=false∧δ.nb=[]∧δ.fz=false:=by
 rcases hk with⟨k,a,rfl⟩|⟨off,x,rfl⟩
 .cases he with
  | rd v h1 h2 h3 =>
   have F:=h2 (λu=>u=v) rfl;have Z:=hc a (by simp[aN]);have G:=hj a (by simp[aN]);simp only[rd] at F;split at F
   .rename_i m e c hx;rw[hx] at Z G;obtain⟨Y,J⟩:=aAF Z.symm;have M:m≠new:=by simpa[AV.has] using G
    split at F
    .rename_i cs z hb;obtain⟨O,I,rfl⟩:=hh m cs z M J hb;obtain⟨⟨hl,hp⟩,rfl⟩:=F
     have em:((((Blk.var (O.map (fV on)) z).row e).drop c).take k)=((((Blk.var O z).row e).drop c).take k).map (fV on):=by
      rw[aCl,Cz,CW]
     simp only[BP,De] at hp;rw[em] at hp;have e2:=aBT hp;have V:((((Blk.var O z).row e).drop c).take k).all rP=true:=by rw[←e2];exact hp
     simp only[em,e2];refine⟨.rd _ rfl (λK hK=>?_) λp U hq=>?_,?_,?_,trivial,trivial⟩
     .simp only[rd,Y,I];refine⟨⟨by rw[aCl,BC] at hl;exact hl,by simp only[BP,De];exact V⟩,hK⟩
     .have H:=U a (by simp[aN]);rw[Y] at H;exact NmL.mk (NmL.take (NmL.drop ((hq m _ H.eG I).row e) _) _)
     .rw[←aEF (g:=true) (by simpa using V),e2]
     .simp only[AV.mk,Bt,AV.has,aAt V]
    .exact F.elim
   .exact F.elim
  |al d' hd v b h1 hf hn h2 h3=>exact(h1 (λ_ _=>True) trivial).elim
  |call d' hd f args hop' g caps hg ys L hm r hout fz hfn hflat hfr=>cases hop'
 .cases he with
  | rd v h1 h2 h3 =>
   have F:=h2 (λu=>u=v) rfl;have Z:=hc x (by simp[aN]);have G:=hj x (by simp[aN]);simp only[rd] at F;split at F
   .rename_i m e c hx;rw[hx] at Z G;obtain⟨Y,J⟩:=aAF Z.symm;have M:m≠new:=by simpa[AV.has] using G
    split at F
    .rename_i cs z hb;obtain⟨O,I,rfl⟩:=hh m cs z M J hb;subst F;refine⟨.rd _ rfl (λK hK=>?_) λp U hq=>?_,aAG J,by simp[AV.has,M],rfl,rfl⟩
     .simp only[rd,Y,I];exact hK
     .have H:=U x (by simp[aN]);rw[Y] at H;exact .ptr _ _ _ _ H.eG
    .exact F.elim
   .exact F.elim
  |al d' hd v b h1 hf hn h2 h3=>exact(h1 (λ_ _=>True) trivial).elim
  |call d' hd f args hop' g caps hg ys L hm r hout fz hfn hflat hfr=>cases hop'
theorem uH {on:Option Name}{x y:AV} (h:y=fV on x) (u:y≠.junk):x=y:=by
 cases on with
 |none=>exact h.symm
 | some n =>
  simp only[fV,scr] at h;split at h
  .exact absurd h u
  .exact h.symm
theorem aCk (on:Option Name) (k:Nat) (l:List (List AV)):fV on (.sl k l)=.sl k l:=by cases on<;>simp[fV,scr,AV.has]
theorem aAH {on:Option Name}{n:Name}{a b:Nat} (c d:Nat) (h:fV on (.loc n a b)=.loc n a b):fV on (.loc n c d)=.loc n c d:=by
 cases on with
 |none=>rfl
 | some m =>
  simp only[fV,scr,AV.has] at h⊢;by_cases u:n=m
  .simp[u] at h
  .simp[u]
theorem aIe {d:Option Nat}{op:AOp}{σ τ:FSt}{δ:Dl}{on:Option Name} (M:aBS op=true) (he:Eff P d op τ δ) {new:Name}
  (J:∀o,o∈aN op->evO τ.s o=fV on (evO σ.s o)) (hj:∀o,o∈aN op->(evO τ.s o).has new=false)
  (hh:∀m k l z,m≠new->τ.h m=some (.arr k l z)->σ.h m=some (.arr k l z)) :
  ∃v',Eff P d op σ ⟨v',[],false,[],λ_=>False⟩∧fV on v'=δ.v∧δ.v.has new=false∧δ.nb=[]∧δ.fz=false:=by
 cases he with
 | rd v G h2 h3 =>
  have F:=h2 (λu=>u=v) rfl
  have hs:rd (evO σ.s) σ.h (λu=>fV on u=v∧v.has new=false) op:=by
   cases op<;>simp only[aBS] at M<;>try(cases M;done)
   case mv a =>
    simp only[rd] at F⊢;have ha:=J a (by simp[aN]);have hn:=hj a (by simp[aN]);rw[F] at ha hn;exact⟨ha.symm,hn⟩
   case bin b x y =>
    simp only[rd] at F⊢;split at F
    .rename_i k a k' b' U hy;have ex:=uH (J x (by simp[aN])) (by rw[U];simp);have ey:=uH (J y (by simp[aN])) (by rw[hy];simp);rw[ex,ey,U,hy];simp only;unfold aGe at F⊢;cases b<;>exact⟨F.1,by rw[←F.2];exact⟨aJt _ _,rfl⟩⟩
    .exact F.elim
   case slc k x lo hi =>
    have Z:∀o:Option Operand,(∀z,o=some z->z∈aN (.slc k x lo hi))->o.map (evO τ.s)=none->o.map (evO σ.s)=none:=λo _ h=>by
     cases o with
     |none=>rfl
     |some z=>cases h
    have Y:∀(o:Option Operand) (w:Value),(∀z,o=some z->z∈aN (.slc k x lo hi))->o.map (evO τ.s)=some (.v w)->o.map (evO σ.s)=some (.v w):=λo w hm h=>by
     cases o with
     |none=>cases h
     | some z =>
      simp only[Ba,Aj] at h⊢;have:=uH (J z (hm z rfl)) (by rw[h];simp);rw[this,h]
    have I:∀z,lo=some z->z∈aN (.slc k x lo hi):=λz hz=>by subst hz;simp[aN]
    have H:∀z,hi=some z->z∈aN (.slc k x lo hi):=λz hz=>by subst hz;simp[aN]
    simp only[rd] at F⊢;split at F
    .rename_i k' l U;have ex:=uH (J x (by simp[aN])) (by rw[U];simp);rw[ex,U];simp only;split at F
     .rename_i G h2;rw[Z lo I G,Z hi H h2];exact⟨F.1,by rw[←F.2];exact⟨aCk _ _ _,rfl⟩⟩
     .rename_i G h2;rw[Y lo _ I G,Z hi H h2];exact⟨F.1,by rw[←F.2];exact⟨aCk _ _ _,rfl⟩⟩
     .rename_i G h2;rw[Z lo I G,Y hi _ H h2];exact⟨F.1,by rw[←F.2];exact⟨aCk _ _ _,rfl⟩⟩
     .rename_i G h2;rw[Y lo _ I G,Y hi _ H h2];exact⟨F.1,by rw[←F.2];exact⟨aCk _ _ _,rfl⟩⟩
     .exact F.elim
    .rename_i n off len U;have hc:=J x (by simp[aN]);have ex:=uH hc (by rw[U];simp)
     have O:n≠new:=by
      have:=hj x (by simp[aN]);rw[U] at this;simpa[AV.has] using this
     have V:fV on (.loc n off len)=.loc n off len:=by
      rw[ex,U] at hc;exact hc.symm
     split at F
     .rename_i k' l z hb;rw[ex,U];simp only;rw[hh n k' l z O hb];simp only;split at F
      .rename_i G h2;rw[Z lo I G,Z hi H h2];exact⟨F.1,by rw[←F.2];exact⟨aAH _ _ V,by simp[AV.has,O]⟩⟩
      .rename_i G h2;rw[Y lo _ I G,Z hi H h2];exact⟨F.1,by rw[←F.2];exact⟨aAH _ _ V,by simp[AV.has,O]⟩⟩
      .rename_i G h2;rw[Z lo I G,Y hi _ H h2];exact⟨F.1,by rw[←F.2];exact⟨aAH _ _ V,by simp[AV.has,O]⟩⟩
      .rename_i G h2;rw[Y lo _ I G,Y hi _ H h2];exact⟨F.1,by rw[←F.2];exact⟨aAH _ _ V,by simp[AV.has,O]⟩⟩
      .exact F.elim
     .exact F.elim
    .exact F.elim
  obtain⟨u,⟨g1,g2⟩,g3,g4⟩:=aCP hs;exact⟨u,.rd u G g3 λp ho hb=>g4 p (λz ps e=>by subst e;simp[aBS] at M) ho hb,g1,g2,rfl,rfl⟩
 | al d' hd v b G hf hn h2 h3 =>
  exfalso;have:=G (λ_ _=>True) trivial;cases op<;>simp only[aBS] at M<;>first|(cases M;done)|exact this.elim
 |call d' hd f args hop' g caps hg ys L hm r hout fz hfn hflat hfr=>subst hop';simp[aBS] at M
theorem aIl {x y:aL}{u:St}{K:FSt->Prop} (hp:aGi x y)
  (J:vc P (fun σ'=>∃δ,yM P y σ'.f δ∧K (app y.dst δ σ'.f)) [x] u):∃G,yM P y u.f G∧∃F:St,F.f=app y.dst G u.f∧vc P (fun σ'=>K σ'.f) [x] F:=by
 have hg:=hp.ap;simp only[kS,Au] at hg
 have a0:∀t,x.dst=some t->oD y t=false∧y.dst≠some t:=λt L=>by
  have:=hg.1;rw[L] at this;simpa using this
 have b0:∀t,y.dst=some t->oD x t=false:=λt L=>by
  have:=hg.2;rw[L] at this;simpa using this
 have hc:∀{z:aL}{t:Nat},oD z t=false->∀o,o∈aN z.op->o≠.tmp t:=by
  intro z t h;simp only[oD,Bool.or_eq_false_iff] at h;exact vT (by simpa using h.1)
 simp only[vc,hp.gx] at J
 have ha:∀(d:Nat),x.dst=some d->∀(M:AV) (B:List (Name×Blk)->List (Name×Blk)) (on:Option Name),(∀h h',aB h=aB h'->aB (B h)=aB (B h'))->(∀h m,m≠.t d 0->aB (B h) m=aB h m)->
   dE (.t d 0) (aT on u)=true->(∃δ,yM P y (⟨(d,M)::(aT on u).s,B (aT on u).h⟩:St).f δ∧K (app y.dst δ (⟨(d,M)::(aT on u).s,B (aT on u).h⟩:St).f))->
   ∃ G,yM P y u.f G∧∃F:St,F.f=app y.dst G u.f∧(∀z,z∈aN x.op->evO (look F.s) z=evO (look u.s) z)∧aB F.h=aB u.h∧dE (.t d 0) (aT on F)=true∧
    K (⟨(d,M)::(aT on F).s,B (aT on F).h⟩:St).f:=by
  rintro d O M B on hB hq hf ⟨δ,⟨b,ry,Z⟩,hK⟩;have h0:y.dst≠some d:=(a0 d O).2;have hu:=hc (a0 d O).1;have U:=dV hf;have I:b=true:=by simpa[runs,hp.gy] using ry
  subst I;have Z:Eff P y.dst y.op (⟨(d,M)::(aT on u).s,B (aT on u).h⟩:St).f δ:=Z
  have hr:∀o,o∈aN y.op->evO (⟨(d,M)::(aT on u).s,B (aT on u).h⟩:St).f.s o=fV on (evO u.f.s o):=by
   intro z hz;have hl:=hu z hz;cases z with
   | tmp t =>
    have V:t≠d:=λe=>hl (by rw[e]);simp only[evO,St.f,look];rw[AJ V,eX];cases on<;>rfl
   | const w =>
    simp only[evO];cases on with
    |none=>rfl
    | some n =>
     simp only[fV,scr];rw[AJ];cases w<;>simp[AV.ofValue,AV.has];rename_i cs
     have:dZ (λm=>m=n) (List.map (λx=>AV.v x) (Array.toList cs)):=dZ.of_mem λx H=>by
      obtain⟨y,_,rfl⟩:=BG.1 H;exact Off.v _
     exact this n rfl
   |global g=>simp only[evO];exact(aBk on).symm
   |func f=>simp only[evO];cases on<;>simp[fV,scr,AV.has,lJ]
  have hs:∀o,o∈aN y.op->(evO (⟨(d,M)::(aT on u).s,B (aT on u).h⟩:St).f.s o).has (.t d 0)=false:=by
   intro z hz;have hl:=hu z hz;cases z with
   | tmp t =>
    have V:t≠d:=λe=>hl (by rw[e]);simp only[evO,St.f,look];rw[AJ V];exact U.2.1 t
   | const w =>
    simp only[evO];cases w<;>simp[AV.ofValue,AV.has];rename_i cs
    have:dZ (λm=>m=.t d 0) (List.map (λx=>AV.v x) (Array.toList cs)):=dZ.of_mem λx H=>by
     obtain⟨y,_,rfl⟩:=BG.1 H;exact Off.v _
    exact this _ rfl
   |global g=>rfl
   |func f=>simp[evO,AV.has,lJ]
  obtain ⟨v',e1,e2,e3,e4,e5⟩:∃v',Eff P y.dst y.op u.f ⟨v',[],false,[],λ_=>False⟩∧fV on v'=δ.v∧δ.v.has (.t d 0)=false∧δ.nb=[]∧δ.fz=false:=by
   rcases hp.ky with hky|hky
   rotate_left
   .exact aIe (σ:=u.f) (on:=on) (new:=.t d 0) hky Z hr hs (λm c l z hm I=>by
     simp only[St.f] at I⊢;rw[hq _ _ hm,eT] at I;cases on with
     |none=>exact I
     | some n =>
       simp only at I;split at I
       . cases I
       . obtain⟨b0,h1,h2⟩:=Cv.1 I
         cases b0 with
         |var c0 z0=>simp[aBl] at h2
         | arr k l z0 =>
           simp only[aBl] at h2;rw[h1,h2])
   obtain ⟨q1,q2,q3,q4,q5⟩:=aIA (σ:=u.f) (on:=on) (new:=.t d 0) hky Z hr hs (λm c z hm hy I=>by
     simp only[St.f] at I⊢;rw[hq _ _ hm,eT] at I;cases on with
     |none=>exact⟨c,I,by rw[show fV none=id from rfl];simp⟩
     | some n =>
       simp only at I;rw[AJ (hy n rfl)] at I;obtain⟨b0,h1,h2⟩:=Cv.1 I;cases b0 with
       | var c0 z0 =>
         simp only[aBl,Blk.var.injEq] at h2;obtain⟨rfl,rfl⟩:=h2;exact⟨c0,h1,rfl⟩
       |arr k l z0=>simp[aBl] at h2)
   exact⟨δ.v,q1,q2,q3,q4,q5⟩
  let G:Dl:=⟨v',[],false,[],λ_=>False⟩
  let F:St:=canon ⟨put y.dst v' u.s,u.h⟩
  have hn:F.f=app y.dst G u.f:=by
   rw[l7];exact aG6
  have s3:∀t,look F.s t=(app y.dst G u.f).s t:=λt=>congrFun (Bd FSt.s hn) t
  have h3:aB F.h=aB u.h:=by
   have:=Bd FSt.h hn
   have e:(app y.dst G u.f).h=aB u.h:=by
    funext n;rw[aAh];simp[G,aB,St.f]
   exact this.trans e
  refine⟨G,⟨true,by simp[runs,hp.gy],e1⟩,F,hn,λz hz=>?_,h3,?_,?_⟩
  .have e:evO (look F.s) z=evO (app y.dst G u.f).s z:=by cases z<;>first|rfl|exact s3 _
   rw[e];exact aCA λt L=>hc (b0 t L) z hz
  .refine zS (aDz (aBe _) on) rfl ⟨⟨?_,U.1.2⟩,λt=>?_,λm bl hj=>?_⟩
   .have:=U.1.1;simp only[St.f,eT] at this⊢;rw[h3];exact this
   .have:=U.2.1 t;simp only[St.f,eX] at this⊢;rw[s3];by_cases L:y.dst=some t
    .rw[L,qB];cases on with
     | none =>
      show AV.has (.t d 0) v'=false
      rw[show v'=δ.v from e2];exact e3
     | some n =>
      show AV.has (.t d 0) (scr n v')=false
      rw[show scr n v'=δ.v from e2];exact e3
    .rw[qL L];exact this
   .refine U.2.2 m bl ?_;simp only[St.f,eT] at hj⊢;rw[h3] at hj;exact hj
  .have hw:(⟨(d,M)::(aT on F).s,B (aT on F).h⟩:St).f=app y.dst δ (⟨(d,M)::(aT on u).s,B (aT on u).h⟩:St).f:=by
    have g1:(⟨(d,M)::(aT on F).s,B (aT on F).h⟩:St).f.s=(app y.dst δ (⟨(d,M)::(aT on u).s,B (aT on u).h⟩:St).f).s:=by
     funext t
     by_cases L:y.dst=some t
     .have V:t≠d:=λe=>h0 (by rw[L,e]);rw[L,qB];simp only[St.f,look];rw[AJ V,eX,s3,L,qB];cases on with
      |none=>exact e2
      |some n=>exact e2
     .rw[qL L];simp only[St.f,look,eX];rw[s3,qL L];rfl
    have g2:(⟨(d,M)::(aT on F).s,B (aT on F).h⟩:St).f.h=(app y.dst δ (⟨(d,M)::(aT on u).s,B (aT on u).h⟩:St).f).h:=by
     have e:(app y.dst δ (⟨(d,M)::(aT on u).s,B (aT on u).h⟩:St).f).h=aB (B (aT on u).h):=by
      funext n;rw[aAh,e4,e5];simp[aB,St.f]
     rw[e];refine hB _ _ (funext λm=>?_);simp only[eT,h3]
    exact congr (Bd FSt.mk g1) g2
   rw[hw];exact hK
 obtain⟨k,ho,A,X,H⟩:=hp.kx
 have go:∀(d:Nat),x.dst=some d->(x.op=.append k ho A X∨x.op=.appendC k ho A X)->bN P x.dst u (fun σ'=>∃δ,yM P y σ'.f δ∧K (app y.dst δ σ'.f)) x.op->
   ∃G,yM P y u.f G∧∃F:St,F.f=app y.dst G u.f∧bN P x.dst F (fun σ'=>K σ'.f) x.op:=by
  intro d O H J;rcases H with H|H
  .rw[H,O] at J;simp only[bN] at J;split at J
   .rename_i on l l' hA hX;obtain⟨⟨hf,hk⟩,hK⟩:=J;have he:=ha d O (.loc (.t d 0) 0 (l.length+l'.length)) (λh=>(.t d 0,.arr k (l++l') false)::h) on (λh h' e=>by funext m;simp only[aB,e]) (λh m hm=>by simp only[aB];rw[AJ hm]) hf hK;obtain⟨G,g1,F,g2,Y,g4,g5,g6⟩:=he;rw[H] at Y;refine⟨G,g1,F,g2,?_⟩;rw[H,O];simp only[bN];rw[Y A (by simp[aN]),Y X (by simp[aN]),g4,hA,hX];exact⟨⟨g5,hk⟩,g6⟩
   .exact J.elim
  .rw[H,O] at J;simp only[bN] at J;split at J
   .rename_i on l l' hA hX;obtain⟨⟨hf,hk⟩,hK⟩:=J;have he:=ha d O (.sl k (l++l')) (λh=>h) on (λh h' e=>e) (λh m hm=>rfl) hf hK;obtain⟨G,g1,F,g2,Y,g4,g5,g6⟩:=he;rw[H] at Y;refine⟨G,g1,F,g2,?_⟩;rw[H,O];simp only[bN];rw[Y A (by simp[aN]),Y X (by simp[aN]),g4,hA,hX];exact⟨⟨g5,hk⟩,g6⟩
   .exact J.elim
 cases O:x.dst with
 |none=>rcases H with H|H<;>(rw[H,O] at J;exact J.elim)
 | some d =>
  obtain⟨G,g1,F,g2,Y⟩:=go d O H J;refine⟨G,g1,F,g2,?_⟩;simp only[vc,hp.gx];exact Y
theorem aKS {x:aL}{H:St}{K:St->Prop} (I:x.guard=none) (J:∃k b A X,x.op=.append k b A X∨x.op=.appendC k b A X) (u:vc P K [x] H) :
  ∃r,K r∧∀G:St->Prop,G r->vc P G [x] H:=by
 obtain⟨k,b,A,X,F⟩:=J;simp only[vc,I] at u⊢;cases hd:x.dst with
 |none=>rcases F with F|F<;>(rw[F,hd] at u;exact u.elim)
 | some d =>
  rcases F with F|F<;>rw[F,hd] at u
  all_goals
   simp only[bN,F] at u⊢;split at u
   .exact⟨_,u.2,λG h=>⟨u.1,h⟩⟩
   .exact u.elim
theorem aG3 {ops:Array Oper}{K:FSt->Prop}{y:aL} (J:eY y=true):∀(G I:List aL) (σ:FSt),(∀x,x∈G->(Pair x y∨aGi x y)∧∃(i:Nat) (o:Oper),ops[i]? = some o∧nA P C.nt ops o=some x.bare)->
  (G.Pairwise λx x'=>∀t,x'.dst=some t->x.dst≠some t)->Real C σ->(∀x,x∈G->∀t,x.dst=some t->σ.s t=.junk)->(G≠[]->∀t,y.dst=some t->σ.s t=.junk)->
  vcE P K (G++y::I) σ->vcE P K (y::(G++I)) σ
 | [],I,σ,_,_,_,_,_,hv=>hv
 | x::G,I,σ,hp,hd,hr,j1,j2,hv=>by
  obtain⟨u,i,o,ho,hc⟩:=hp x (by simp);have Z:kS x y=true:=by rcases u with h|h<;>exact h.ap
  have ax:∀t,y.dst=some t->x.dst≠some t:=by
   intro t F h;have:=Z;simp only[kS,h,Au,Bz,Ap] at this;exact this.1.2 F
  rcases u with u|u
  .have O:=u.fx;simp only[Ad,vcE,O,Bt] at hv;obtain⟨δx,h1,h2⟩:=hv
   have:=aG3 J G I (app x.dst δx σ) (λz H=>hp z (by simp[H])) hd.tail (aFn ho hc hr h1) (λz H t F=>by
     rw[qL ((Dn hd H) t F)];exact j1 z (by simp[H]) t F) (λ_ t F=>by
     rw[qL (ax t F)];exact j2 (by simp) t F) h2
   simp only[vcE,J,Bt] at this;obtain⟨δy,Y,U⟩:=this;obtain⟨σl,a,w,S,ρ,κ,e,L⟩:=hr;obtain⟨V,h6,h7⟩:=aIR h1 Y (by rw[←e];exact L.wf) O J u.ap (j1 x (by simp)) (j2 (by simp));simp only[vcE,J,O,Bt,Ad];exact⟨δy,V,δx,h6,by rw[h7];exact U⟩
  .have O:=u.fx;simp only[Ad,vcE,O,A8,Bg] at hv;obtain⟨σl,e,h2⟩:=hv;obtain⟨r,⟨Y,U⟩,V⟩:=aKS u.gx u.kx h2;obtain⟨σ0,a,w,S,ρ,κ,e0,L⟩:=hr
   have M:Real C r.f:=by
    obtain⟨a',w',σ',S',ρ',κ',q1,q2⟩:=aHc (aHv (Q:=λ_ _ _=>False) ho hc (V (fun σ'=>σ'=r) rfl) (by rw[e,←e0];exact L));exact⟨σ',a',w',S',ρ',κ',by rw[q1],q2⟩
   have sl:∀t,look σl.s t=σ.s t:=λt=>congrFun (Bd FSt.s e) t
   have:=aG3 J G I r.f (λz H=>hp z (by simp[H])) hd.tail M (λz H t F=>by
     exact U t ((Dn hd H) t F) ((sl t).trans (j1 z (by simp[H]) t F))) (λ_ t F=>by
     exact U t (ax t F) ((sl t).trans (j2 (by simp) t F))) Y
   simp only[vcE,J,Bt] at this;obtain⟨δ',g1,σ3,g2,g3⟩:=aIl (K:=λf=>vcE P K (G++I) f) u (V (fun σ'=>∃δ,yM P y σ'.f δ∧vcE P K (G++I) (app y.dst δ σ'.f)) this);rw[e] at g1 g2;simp only[vcE,J,O,A8,Bg,Bt,Ad];exact⟨δ',g1,σ3,g2,aCI g3⟩
def aKV (o:Oper) (k:Nat):Bool:=o.after.any λe=>Region.binds .any e&&e.on==k
def xA (ops:Array Oper):Nat->Nat->Nat->Bool
 |0,_,_=>false
 | n+1,k,i=>match ops[i]? with
  |some o=>o.after.any λe=>Region.binds .any e&&(e.on==k||xA ops n k e.on)
  |none=>false
def wR (aops:List aL) (k:Nat):Bool:=match(aops[k]?).bind (·.dst) with
 |some d=>(List.range aops.length).all λj=>j==k||!(((aops[j]?).bind (·.dst))==some d)
 |none=>true
def aDn (ops:Array Oper) (k i:Nat):Bool:=match ops[i]? with|some o=>!aKV o k|none=>false
def aMm (x y:aL):Bool:=eY x&&!eY y&&y.guard.isNone&&kS x y&&match y.op with
 |.store ..=>aAS x.op
 |.append ..=>match x.op with|.mv _=>true|_=>false
 |_=>false
def aKk (x y:aL):Bool:=eY x&&!eY y&&y.guard.isNone&&kS x y&&x.dst.isSome&&(match y.op with
  |.append ..=>true
  |_=>false)&&match x.op with
 |.load ..=>true
 |.fieldAddr ..=>true
 |_=>false
def aJk (x y:aL):Bool:=!eY x&&eY y&&x.guard.isNone&&y.guard.isNone&&kS x y&&y.dst.isSome&&(match x.op with
  |.append ..=>true
  |_=>false)&&match y.op with
 |.load g _ _=>g
 |.fieldAddr ..=>true
 |_=>false
def aMe (x y:aL):Bool:=!eY x&&eY y&&x.guard.isNone&&y.guard.isNone&&kS x y&&y.dst.isSome&&(match x.op with
  |.append ..=>true
  |_=>false)&&aBS y.op
def aFA (x y:aL):List Nat:=(if aKk x y then(match x.dst with
  |some d=>[d+1000000]
  |none=>[]) else[])++if aJk x y then(match y.dst with
  |some d=>[d+1000000]
  |none=>[]) else[]
def aAT (ops:Array Oper) (aops:List aL) (k i:Nat):Bool:=match aops[k]?,aops[i]? with
 |some x,some y=>(aMe x y||(aKk x y||aJk x y))&&wR aops k&&wR aops i&&!xA ops ops.size k i
 |_,_=>false
def aCU (aops:List aL) (k i:Nat):Bool:=match aops[k]?,aops[i]? with
 |some x,some y=>((eY x&&eY y&&kS x y)||aMm x y)&&wR aops k&&wR aops i
 |_,_=>false
def aMq (ops:Array Oper):Bool:=(List.range ops.size).all λi=>match ops[i]? with
 |some o=>o.after.all λe=>!Region.binds .any e||decide (e.on<i)
 |none=>true
def qP (n:Nat) (ops:Array Oper):List (Nat×Nat):=(List.range n).flatMap λi=>(List.range i).filterMap λk=>if aDn ops k i then some (k,i) else none
def aMk (ops:Array Oper) (aops:List aL):Bool:=aMq ops&&(qP ops.size ops).all λp=>(aCU aops p.1 p.2||aAT ops aops p.1 p.2)||xA ops ops.size p.1 p.2
def aFW (ops:Array Oper) (aops:List aL):List Nat:=(((qP ops.size ops).filter λp=>aCU aops p.1 p.2||aAT ops aops p.1 p.2).flatMap λp=>((aops[p.1]?).bind (·.dst)).toList++((aops[p.2]?).bind (·.dst)).toList++(if aAT ops aops p.1 p.2 then(match aops[p.1]?,aops[p.2]? with
  |some x,some y=>aFA x y
  |_,_=>[]) else[])).eraseDups
def setB (ops:Array Oper) (i:Nat):Bool:=(qP ops.size ops).all λp=>!(p.1==i||p.2==i)||xA ops ops.size p.1 p.2
def writes (P:Program):AOp->Bool
 | .call (.func g) _ _=>match P.funcs[g]? with
  |some fn=>fn.name == "loop.example/g01012/spec.l15Do"
  |none=>false
 |_=>false
def aIm (P:Program) (ops:Array Oper) (aops:List aL):List Nat:=(List.range aops.length).filterMap λi=>match aops[i]? with
 | some o=>match o.dst with
  |some d=>if writes P o.op&&setB ops i then some (d+2000000) else none
  |none=>none
 |none=>none
def fK (P:Program) (nt:Nat) (ops:Array Oper):Option (List Nat):=match aCg P nt ops ops.toList with
 |some l=>if Nat.ble nt 1000000&&aMk ops l then some (aFW ops l++aIm P ops l) else none
 |none=>none
end
section
variable [Envs]
variable {P:Program}{C:Ctx}{a:Act}{w:World}{S:Nat->Prop}{ρ:Name->Option Nat}{κ:Name->Nat}
theorem aDE (aops:List aL) (u F:List Nat):atL aops (u++F)=atL aops u++atL aops F:=by simp[atL]
structure Plan (P:Program) (C:Ctx) (ops:Array Oper) (aops:List aL) (F:Nat->Prop):Prop where
 corr:∀(j:Nat) (ao:aL),aops[j]? = some ao->∃o:Oper,ops[j]? = some o∧nA P C.nt ops o=some ao.bare
 len:ops.size=aops.length
 back:∀(i:Nat) (o:Oper),ops[i]? = some o->∀e,e∈o.after->Region.binds .any e=true->e.on<i
 pair:∀k i,k<i->i<ops.size->aDn ops k i=true->xA ops ops.size k i=false->F k∧F i∧∀(x y:aL),aops[k]? = some x->aops[i]? = some y->Pair x y∨aGj x y∨aGi x y
 uniq:∀k,F k->∀(x:aL) (d:Nat),aops[k]? = some x->x.dst=some d->∀(j:Nat) (y:aL),j≠k->aops[j]? = some y->y.dst≠some d
theorem aDF {ops:Array Oper}{u:Array Bool} (F:∀(j:Nat) (o:Oper),ops[j]? = some o->u.getD j false=true->∀e,e∈o.after->Region.binds .any e=true->u.getD e.on false=true) :
  ∀(n k i:Nat) (o:Oper),ops[i]? = some o->(∀e,e∈o.after->Region.binds .any e=true->u.getD e.on false=true)->xA ops n k i=true->u.getD k false=true
 |0,_,_,_,_,_,h=>by simp[xA] at h
 | n+1,k,i,o,ho,hl,h=>by
  simp only[xA,ho] at h;rw[←Array.any_toList,List.any_eq_true] at h;obtain⟨e,H,h⟩:=h;simp only[Au,Cn,Bj] at h;have G:=hl e (by simpa using H) h.1;rcases h.2 with h2|h2
  .rw[←h2];exact G
  .cases ho':ops[e.on]? with
   | none =>
    cases n with
    |zero=>simp[xA] at h2
    |succ n=>simp[xA,ho'] at h2
   |some o'=>exact aDF F n k e.on o' ho' (F e.on o' ho' G) h2
theorem aNi {ops:Array Oper}{aops:List aL}{F:Nat->Prop}{K:St->Prop}{Q:Exit->Act->World->Prop} (hp:Plan P C ops aops F) (hQ:∀a w,dP C K a w->Q .normal a w) :
  ∀ (n:Nat) (r:List Nat) (u:Array Bool) (O:St) (a:Act) (w:World) (S:Nat->Prop) (ρ:Name->Option Nat) (κ:Name->Nat),r.length=n->r.Pairwise (· < ·)->u.size=ops.size->
   (∀i,i∈r↔i<ops.size∧u.getD i true=false)->(∀i,i∈r->F i->∀(x:aL) (d:Nat),aops[i]? = some x->x.dst=some d->look O.s d=.junk)->
   (∀(j:Nat) (o:Oper),ops[j]? = some o->u.getD j false=true->∀e,e∈o.after->Region.binds .any e=true->u.getD e.on false=true)->
   vcE P (λf=>∃σ':St,σ'.f=f∧K σ') (atL aops r) O.f->OK C O.f a w S ρ κ->wpAny P .any ops Q n u a w:=by
 intro n
 induction n with
 | zero =>
  intro r u O a w S ρ κ hn _ qg hr _ _ hv hf;obtain rfl:=List.length_eq_zero_iff.1 hn;refine⟨?_,?_⟩
  .cases h:Region.ready .any ops u with
   |nil=>rfl
   | cons i l =>
    have:i∈Region.ready .any ops u:=by rw[h];simp
    obtain⟨h1,o,h2,_⟩:=mem_ready.1 this;have:i∈([]:List Nat):=(hr i).2 ⟨(Cc.1 h2).1,h1⟩;cases this
  .obtain⟨σ',h1,h2⟩:=hv;exact hQ a w ⟨σ',S,ρ,κ,h2,by rw[h1];exact hf⟩
 | succ n ih =>
  intro r u O a w S ρ κ hn I qg hr hj h9 hv hf
  have done:∀i,i<ops.size->i∉r->u.getD i false=true:=by
   intro i hi h6;cases h:u.getD i true with
   |false=>exact absurd ((hr i).2 ⟨hi,h⟩) h6
   | true =>
    have:i<u.size:=by omega
    simp[this] at h⊢;exact h
  refine⟨λqf=>?_,λi hi=>?_⟩
  .exfalso;cases r with
   |nil=>simp at hn
   | cons r0 r =>
    obtain⟨h1,h2⟩:=(hr r0).1 (by simp)
    have:r0∈Region.ready .any ops u:=mem_ready.2 ⟨h2,ops[r0],by simp[h1],λe he hb=>by
      have V:=hp.back r0 ops[r0] (by simp[h1]) e he hb;refine done e.on (by omega) λhm=>?_;rcases Ay.1 hm with h|h
      . omega
      . have:=Dn I h;omega⟩
    rw[qf] at this;cases this
  .obtain⟨h1,oi,h2,h3⟩:=mem_ready.1 hi;have U:i<ops.size:=(Cc.1 h2).1;have h6:i∈r:=(hr i).2 ⟨U,h1⟩;obtain⟨J,Y,rfl⟩:=List.append_of_mem h6;have qi:i<aops.length:=by rw[←hp.len];exact U
   obtain⟨y,hy⟩:∃y,aops[i]? = some y:=⟨aops[i],by simp[qi]⟩;obtain⟨qo,g1,g2⟩:=hp.corr i y hy;rw[h2] at g1;obtain rfl:=Av g1;have V:∀k,k∈J->k<i:=λk H=>(Bu.1 I).2.2 k H i (by simp)
   have qb:∀k,k∈J->aDn ops k i=true:=by
    intro k H;simp only[aDn,h2,aKV,Bz,List.any_eq_false,←Array.any_toList];intro e he;simp only[Au,Bj,not_and];intro hb qj;have h4:=h3 e (by simpa using he) hb;have h5:=((hr k).1 (by simp[H])).2;rw[qj] at h4;have:k<u.size:=by have:=V k H;omega
    simp[this] at h4 h5;rw[h4] at h5;cases h5
   have h0:∀k,k∈J->xA ops ops.size k i=false:=by
    intro k H;cases h:xA ops ops.size k i with
    |false=>rfl
    | true =>
     have h4:=aDF h9 ops.size k i oi h2 h3 h;have h5:=((hr k).1 (by simp[H])).2;have:k<u.size:=by have:=V k H;omega
     simp[this] at h4 h5;rw[h4] at h5;cases h5
   have hd:∀x,x∈atL aops J->∃k,k∈J∧aops[k]? = some x:=by
    intro x M;obtain⟨k,H,L⟩:=List.mem_filterMap.1 M;exact⟨k,H,L⟩
   have e1:atL aops (J++i::Y)=atL aops J++y::atL aops Y:=by
    rw[aDE];simp[atL,hy]
   rw[e1] at hv;have hz:=(Bu.1 I).1
   have ha:(atL aops J).Pairwise λx x'=>∀t,x'.dst=some t->x.dst≠some t:=by
    have:J.Pairwise λk k'=>∀x,aops[k]? = some x->∀x',aops[k']? = some x'->∀t,x'.dst=some t->x.dst≠some t:=by
     refine hz.imp_of_mem λ{k k'} H hk' hkk x M x' h8 t ht=>?_;have hF:=(hp.pair k' i (V k' hk') U (qb k' hk') (h0 k' hk')).1;exact hp.uniq k' hF x' t h8 ht k x (by omega) M
    exact List.pairwise_filterMap.2 (this.imp λh x M x' h8=>h x M x' h8)
   have hq:Real C O.f:=⟨O,a,w,S,ρ,κ,rfl,hf⟩;have G:∀k,k∈J->F k∧F i∧∀(x y:aL),aops[k]? = some x->aops[i]? = some y->Pair x y∨aGj x y∨aGi x y:=λk H=>hp.pair k i (V k H) U (qb k H) (h0 k H)
   have qd:∀x,x∈atL aops J->∀t,x.dst=some t->O.f.s t=.junk:=by
    intro x M t ht;obtain⟨k,H,L⟩:=hd x M;exact hj k (by simp[H]) (G k H).1 x t L ht
   have Z:vcE P (λf=>∃σ':St,σ'.f=f∧K σ') (y::(atL aops J++atL aops Y)) O.f:=by
    by_cases hs:eY y=true
    .refine aG3 (P:=P) (C:=C) (ops:=ops) (y:=y) hs (atL aops J) (atL aops Y) O.f (λx M=>?_) ha hq qd (λqk t ht=>?_) hv
     .obtain⟨k,H,L⟩:=hd x M;obtain⟨o,q1,q2⟩:=hp.corr k x L;refine⟨?_,k,o,q1,q2⟩;rcases(G k H).2.2 x y L hy with h|h|h
      .exact .inl h
      .have:=h.fy;rw[hs] at this;cases this
      .exact .inr h
     .cases J with
      |nil=>exact absurd rfl qk
      |cons k _=>exact hj i (by simp) (G k (by simp)).2.1 y t hy ht
    .refine aKQ (P:=P) (C:=C) (ops:=ops) (y:=y) (atL aops J) (atL aops Y) O.f (λx M=>?_) ha hq qd hv;obtain⟨k,H,L⟩:=hd x M;obtain⟨o,q1,q2⟩:=hp.corr k x L;refine⟨?_,k,o,q1,q2⟩;rcases(G k H).2.2 x y L hy with h|h|h
     .exact absurd h.fy hs
     .exact h
     .exact absurd h.fy hs
   have e2:atL aops J++atL aops Y=atL aops (J++Y):=(aDE _ _ _).symm;rw[e2] at Z
   have hu:i∉J∧i∉Y:=by
    have hg:=Bu.1 I;exact⟨λh=>Dr _ (V i h),λh=>Dr _ (Dn hg.2.1 h)⟩
   have hw:(J++Y).Pairwise (· < ·):=by
    have hg:=Bu.1 I;exact Bu.2 ⟨hg.1,hg.2.1.tail,λx M y hy=>hg.2.2 x M y (by simp[hy])⟩
   have ql:∀k,k∈J++Y↔k<ops.size∧(u.setIfInBounds i true).getD k true=false:=by
    intro k;by_cases hc:k=i
    .subst hc;have:k<u.size:=by omega
     simp[hu.1,hu.2,this]
    .rw[getD_set_ne true (DL hc),←hr k];simp[hc]
   have qa:∀(j:Nat) (o:Oper),ops[j]? = some o->(u.setIfInBounds i true).getD j false=true->∀e,e∈o.after->Region.binds .any e=true->(u.setIfInBounds i true).getD e.on false=true:=by
    intro j o ho hl e he hb;refine getD_set_true ?_;by_cases qc:i=j
    .subst qc;rw[h2] at ho;obtain rfl:=Av ho;exact h3 e he hb
    .rw[getD_set_ne false qc] at hl;exact h9 j o ho hl e he hb
   have next:∀(σ':St) a' w',aDh y.dst O σ'->vcE P (λf=>∃σ':St,σ'.f=f∧K σ') (atL aops (J++Y)) σ'.f->(∃S ρ κ,OK C σ'.f a' w' S ρ κ)->wpAny P .any ops Q n (u.setIfInBounds i true) a' w':=by
    rintro σ' a' w' H qm ⟨S',ρ',κ',hok'⟩;refine ih (J++Y) _ σ' a' w' S' ρ' κ' (by simp at hn⊢;omega) hw (by simp[qg]) ql (λk qe hF x d M qh=>?_) qa qm hok'
    have hc:k≠i:=by
     rintro rfl;rcases Be.1 qe with h|h
     .exact hu.1 h
     .exact hu.2 h
    refine H d (hp.uniq k hF x d M qh i y (DL hc) hy) (hj k ?_ hF x d M qh);rcases Be.1 qe with h|h
    .simp[h]
    .simp[h]
   simp only[vcE] at Z;split at Z
   .obtain⟨δ,q1,q2⟩:=Z;have qn:=aI8 (P:=P) (o:=y) (σ:=canon O) (δ:=δ) (aBe O) (by rw[l7];exact q1);refine wpOp_mono (λa' w' ⟨σ',S',ρ',κ',m1,m2⟩=>?_) (aHv h2 g2 qn (by rw[l7];exact hf));rw[l7] at m1;refine next σ' a' w' (λt ht h7=>?_) (by rw[m1];exact q2) ⟨S',ρ',κ',m2⟩
    have:σ'.f.s t=(app y.dst δ O.f).s t:=by rw[m1]
    rw[qL ht] at this;exact this.trans h7
   .obtain⟨σ2,q1,q2⟩:=Z;refine wpOp_mono (λa' w' ⟨σ',S',ρ',κ',m1,m2⟩=>?_) (aHv h2 g2 q2 (by rw[q1];exact hf));refine next σ' a' w' (λt ht h7=>m1.2 t ht ?_) m1.1 ⟨S',ρ',κ',m2⟩
    have:σ2.f.s t=O.f.s t:=by rw[q1]
    exact this.trans h7
theorem bI (ao:aL):aN ao.bare.op=aN ao.op∧ao.bare.dst=ao.dst∧ao.bare.guard=ao.guard∧wE ao.bare.op=wE ao.op:=by
 obtain⟨d,op,g⟩:=ao;cases op<;>exact⟨rfl,rfl,rfl,rfl⟩
theorem aGw (y:aL) (t:Nat):oD y.bare t=oD y t:=by
 grind [bI,oD]
theorem qC (x y:aL):kS x.bare y.bare=kS x y:=by
 grind [bI,oD,aGw,kS]
theorem aGS {x:aL} (h:eY x.bare=true) (F:∀f args bor,x.op=.call f args bor->bor=[]) (G:∀k n z u,x.op≠.bsliceC k n z u):eY x=true:=by
 obtain⟨d,op,g⟩:=x;cases op
 case bsliceC k n z u=>exact absurd rfl (G k n z u)
 case call f args bor =>
  have:=F f args bor rfl;subst this;exact h
 all_goals exact h
theorem aIB {s:List (Nat×AV)}{d:Nat} (h:(s.all λp=>!(p.1==d))=true):look s d=.junk:=by
 induction s with
 |nil=>rfl
 | cons p r ih =>
  obtain⟨i,x⟩:=p;simp only[BO,Au,Bz,Ap] at h;simp only[look];rw[AJ (λe=>h.1 e.symm)];exact ih h.2
theorem yD {α β:Type}{f g:α->Option β}:∀{l:List α},(∀x,x∈l->f x=g x)->l.filterMap f=l.filterMap g
 | [],_=>rfl
 |x::r,h=>by simp only[List.filterMap_cons,h x (by simp),yD (l:=r) λy u=>h y (by simp[u])]
instance:Inhabited aL:=⟨⟨none,.lenC 0,none⟩⟩
theorem qA (hm:P.follows .mixedOrders=true):lL P (fK P):=by
 intro C id ops aops fl K Q σ a w S ρ κ hd hc hen hQ hv hok;unfold fK at hd;rw[hc] at hd;simp only at hd;split at hd
 .rename_i hop;obtain rfl:=Av hd;simp only[aMk,Au,Aw] at hop;obtain⟨hnt,hback,hpairs⟩:=hop;have hnt:=Cq hnt
  have hset0:∀(k:Nat) (x:aL) (d:Nat),aops[k]? = some x->x.dst=some d->d+2000000∈aFW ops (aops.map aL.bare)++aIm P ops (aops.map aL.bare)->∃k' x',aops[k']? = some x'∧x'.dst=some d∧setB ops k'=true:=by
   intro k x d hx hd hm
   have hdn:∀(k:Nat) (d:Nat),((aops.map aL.bare)[k]?).bind (·.dst)=some d->d<1000000:=by
    intro k d hd
    have hkl:k<aops.length:=by
     rcases Cw k aops.length with h|h
     .exact h
     .simp[h] at hd
    obtain⟨_,g2⟩:=mZ hc;obtain⟨o,q1,q2⟩:=g2 k aops[k] (by simp[hkl]);obtain⟨_,h2,h3,_⟩:=iJ q2
    have:aops[k].dst=some d:=by
     have e:((aops.map aL.bare)[k]?).bind (·.dst)=aops[k].dst:=by simp[hkl,(bI aops[k]).2.1]
     rw[←e];exact hd
    have hlt:d<C.nt:=h3 d (h2.trans this);omega
   rcases Be.1 hm with hm|hm
   .exfalso;simp only[aFW,List.mem_eraseDups,Dm,BN] at hm;obtain⟨p,_,hp⟩:=hm;rcases Be.1 hp with hp|hp
    .rcases Be.1 hp with hp|hp
     .have:=hdn _ _ (Option.mem_toList.1 hp);omega
     .have:=hdn _ _ (Option.mem_toList.1 hp);omega
    .split at hp
     .split at hp
      .rename_i x' y' hx' hy';unfold aFA at hp;rcases Be.1 hp with hp|hp
       .split at hp
        .split at hp
         .rename_i d' hd';have:=hdn p.1 d' (by rw[hx'];exact hd');simp at hp;omega
         .cases hp
        .cases hp
       .split at hp
        .split at hp
         .rename_i d' hd';have:=hdn p.2 d' (by rw[hy'];exact hd');simp at hp;omega
         .cases hp
        .cases hp
      .cases hp
     .cases hp
   .simp only[aIm,List.mem_filterMap,BI,BC] at hm;obtain⟨i,hi,hm⟩:=hm;split at hm
    .rename_i o ho;split at hm
     .rename_i d' hd';split at hm
      .rename_i hw;simp only[Aj] at hm;have hdd:d'=d:=by omega
       simp only[Au] at hw
       obtain ⟨x',hx',rfl⟩:∃x',aops[i]? = some x'∧x'.bare=o:=by
        rw[BQ] at ho;exact Cv.1 ho
       exact⟨i,x',hx',by rw[←(bI x').2.1,hd',hdd],hw.2⟩
      .cases hm
     .cases hm
    .cases hm
  obtain⟨g1,g2⟩:=mZ hc;have hlen:ops.size=aops.length:=by simpa using g1
  have hmem:∀k i,k<i->i<ops.size->aDn ops k i=true->(k,i)∈qP ops.size ops:=by
   intro k i hk hi hf;simp only[qP,Dm,BI,List.mem_filterMap];exact⟨i,hi,k,hk,by rw[AY hf]⟩
  let F:Nat->Prop:=λk=>∃p,p∈qP ops.size ops∧(aCU (aops.map aL.bare) p.1 p.2||aAT ops (aops.map aL.bare) p.1 p.2)=true∧xA ops ops.size p.1 p.2=false∧(p.1=k∨p.2=k)
  have bareAt:∀(i:Nat) (x:aL),aops[i]? = some x->(aops.map aL.bare)[i]? = some x.bare:=by
   intro i x hx;simp[hx]
  have hfl:∀(k:Nat) (x:aL) (d:Nat),F k->aops[k]? = some x->x.dst=some d->d∈aFW ops (aops.map aL.bare)++aIm P ops (aops.map aL.bare):=by
   rintro k x d ⟨p,hp,hpp,hpa,hpk⟩ hx hd;refine BV _ ?_;simp only[aFW,List.mem_eraseDups,Dm,BN];refine⟨p,⟨hp,hpp⟩,?_⟩;have:((aops.map aL.bare)[k]?).bind (·.dst)=some d:=by rw[bareAt k x hx];simp[(bI x).2.1,hd]
   rcases hpk with h|h
   .rw[h,this];simp
   .rw[h,this];simp
  have hmk:∀(k i:Nat) (x y:aL) (d:Nat),(k,i)∈qP ops.size ops->aAT ops (aops.map aL.bare) k i=true->aops[k]? = some x->aops[i]? = some y->d∈aFA x.bare y.bare->d∈aFW ops (aops.map aL.bare)++aIm P ops (aops.map aL.bare):=by
   intro k i x y d hp hpp hx hy hd;refine BV _ ?_;simp only[aFW,List.mem_eraseDups,Dm,BN];refine⟨(k,i),⟨hp,by rw[hpp,Bool.or_true]⟩,?_⟩;simp only[bareAt k x hx,bareAt i y hy,hpp,Bt];simp[hd]
  simp only[aBz,Au,Aw] at hen
  replace hen:=hen.2
  have hjunk:∀(k:Nat) (x:aL) (d:Nat),F k->aops[k]? = some x->x.dst=some d->look σ.s d=.junk:=λk x d hF hx hd =>
   aIB (by simpa using hen.1 d (hfl k x d hF hx hd))
  have hbor:∀(k:Nat) (x:aL),F k->aops[k]? = some x->eY x.bare=true->eY x=true:=by
   intro k' x hF hx hfr
   have hds:wE x.bare.op=false->x.dst.isSome=true:=by
    intro hi;simp only[eY,Au,Cn,hi,(bI x).2.1,A8,Bq] at hfr;exact hfr.2
   have hsl:∀k n z ps,x.op≠.bsliceC k n z ps:=by
    intro k n z ps e;obtain⟨d,hd⟩:=AQ.1 (hds (by rw[(bI x).2.2.2,e];rfl));have h1:=hen.2 x (BU hx);rw[e,hd] at h1;have h2:=hfl k' x d hF hx hd;simp[h2] at h1
   refine aGS hfr (λf args bor e=>?_) hsl;obtain⟨d,hd⟩:=AQ.1 (hds (by rw[(bI x).2.2.2,e];rfl));have h1:=hen.2 x (BU hx);rw[e,hd] at h1;have h2:=hfl k' x d hF hx hd;simp only[Cn,List.isEmpty_iff,Bz,CV,BH,Bb] at h1;rcases h1 with(h1|h1)|h1
   .exact h1
   .exact absurd h2 h1
   .exfalso;obtain⟨k2,x2,g1,g2,g3⟩:=hset0 _ x d hx hd h1;obtain⟨⟨ka,ia⟩,hp,hpp,hpa,hpk⟩:=hF
    have hu:wR (aops.map aL.bare) ka=true∧wR (aops.map aL.bare) ia=true:=by
     rw[Cn] at hpp;rcases hpp with hpp|hpp
     .simp only[aCU] at hpp;split at hpp
      .simp only[Au] at hpp;exact⟨hpp.1.2,hpp.2⟩
      .cases hpp
     .simp only[aAT] at hpp;split at hpp
      .simp only[Au] at hpp;exact⟨hpp.1.1.2,hpp.1.2⟩
      .cases hpp
    have huk:wR (aops.map aL.bare) k'=true:=by
     rcases hpk with h|h
     .simp only at h;rw[←h];exact hu.1
     .simp only at h;rw[←h];exact hu.2
    unfold wR at huk;have e1:((aops.map aL.bare)[k']?).bind (·.dst)=some d:=by rw[bareAt k' x hx];simp[(bI x).2.1,hd]
    have e2:((aops.map aL.bare)[k2]?).bind (·.dst)=some d:=by rw[bareAt k2 x2 g1];simp[(bI x2).2.1,g2]
    rw[e1] at huk;simp only[Aw,BI,BC] at huk;have hq:=huk k2 (CL.1 g1).1;rw[e2] at hq;have hkk:k2=k':=by simpa using hq
    subst hkk;unfold setB at g3;have:=Aw.1 g3 _ hp;simp only[hpa,Bool.or_false,Bz,Bool.or_eq_false_iff,Ap] at this;rcases hpk with h|h
    .exact this.1 h
    .exact this.2 h
  have hno:∀(k:Nat) (x:aL) (d:Nat),aops[k]? = some x->x.dst=some d->d+1000000∈aFW ops (aops.map aL.bare)++aIm P ops (aops.map aL.bare)->(∀g n a,x.op≠.load g n a)∧∀o a,x.op≠.fieldAddr o a:=by
   intro k x d hx hd hm;have h1:=hen.2 x (BU hx);refine⟨λg n a e=>?_,λo a e=>?_⟩
   .rw[e,hd] at h1;simp[hm] at h1
   .rw[e,hd] at h1;simp[hm] at h1
  have hpair:∀k i,(k,i)∈qP ops.size ops->(aCU (aops.map aL.bare) k i||aAT ops (aops.map aL.bare) k i)=true->xA ops ops.size k i=false->∀(x y:aL),aops[k]? = some x->aops[i]? = some y->(Pair x y∨aGj x y∨aGi x y)∧wR (aops.map aL.bare) k=true∧wR (aops.map aL.bare) i=true:=by
   intro k i hki h hpa x y hx hy;have hpp:=h;rw[Cn] at h;rcases h with h|h
   .simp only[aCU,bareAt k x hx,bareAt i y hy,Au,Cn,qC] at h;refine⟨?_,h.1.2,h.2⟩;rcases h.1.1 with h1|h1
    .exact .inl ⟨hbor k x ⟨_,hki,hpp,hpa,.inl rfl⟩ hx h1.1.1,hbor i y ⟨_,hki,hpp,hpa,.inr rfl⟩ hy h1.1.2,h1.2⟩
    .right;left
     simp only[aMm,Au,qC,Bz,(bI y).2.2.1,Option.isNone_iff_eq_none] at h1;obtain⟨⟨⟨⟨q1,q2⟩,q3⟩,q4⟩,q5⟩:=h1
     have q2':eY y=false:=by
      obtain⟨d,op,g⟩:=y
      cases op<;>first
       |exact q2
       |(exfalso;revert q5;simp[aL.bare,AOp.bare,AOp.bare0])
     refine⟨hbor k x ⟨_,hki,hpp,hpa,.inl rfl⟩ hx q1,q2',q3,q4,?_⟩;obtain⟨dy,opy,gy⟩:=y;obtain⟨dx,opx,gx⟩:=x;cases opy<;>simp only[aL.bare,AOp.bare,AOp.bare0] at q5<;>try(cases q5;done)
     .refine .inl ⟨_,_,_,rfl,?_⟩;cases opx<;>first|exact q5|simp[aAS,AOp.bare,AOp.bare0] at q5
     .right
      cases opx<;>simp only[AOp.bare,AOp.bare0] at q5<;>try(cases q5;done)
      exact⟨_,_,_,_,_,.inl rfl,.inl rfl⟩
     .right
      cases opx<;>simp only[AOp.bare,AOp.bare0] at q5<;>try(cases q5;done)
      exact⟨_,_,_,_,_,.inr rfl,.inl rfl⟩
   .have hN:=h;simp only[aAT,bareAt k x hx,bareAt i y hy,Au,Cn] at h;refine⟨?_,h.1.1.2,h.1.2⟩;rcases h.1.1.1 with h1|h1|h1
    .right;right
     simp only[aMe,Au,qC,Bz,(bI y).2.2.1,(bI x).2.2.1,(bI y).2.1,Option.isNone_iff_eq_none] at h1;obtain⟨⟨⟨⟨⟨⟨⟨q1,q2⟩,q3⟩,q4⟩,q5⟩,q6⟩,q7⟩,q8⟩:=h1
     have kx:∃k b A X,x.op=.append k b A X∨x.op=.appendC k b A X:=by
      obtain⟨dx,opx,gx⟩:=x;cases opx<;>simp only[aL.bare,AOp.bare,AOp.bare0] at q7<;>try(cases q7;done)
      .exact⟨_,_,_,_,.inl rfl⟩
      .exact⟨_,_,_,_,.inr rfl⟩
     have q1':eY x=false:=by
      obtain⟨k',b',A',X',h|h⟩:=kx<;>simp only[eY,h,qK,Dy]
     refine⟨q1',hbor i y ⟨_,hki,hpp,hpa,.inr rfl⟩ hy q2,q3,q4,q5,kx,.inr ?_⟩;obtain⟨dy,opy,gy⟩:=y;cases opy<;>simp only[aL.bare,AOp.bare,AOp.bare0,aBS] at q8<;>first|rfl|(cases q8;done)
    .right;left
     have hh:=h1;simp only[aKk,Au,qC,Bz,(bI y).2.2.1,(bI x).2.1,Option.isNone_iff_eq_none] at h1;obtain⟨⟨⟨⟨⟨⟨q1,q2⟩,q3⟩,q4⟩,q6⟩,q7⟩,q8⟩:=h1;obtain⟨d,hdx⟩:=AQ.1 q6;have hmark:=hno k x d hx hdx (hmk k i x y _ hki hN hx hy (by unfold aFA;rw[AY hh,(bI x).2.1,hdx];exact BV _ (Ar.2 rfl)))
     have ky:∃k b A X,y.op=.append k b A X∨y.op=.appendC k b A X:=by
      obtain⟨dy,opy,gy⟩:=y;cases opy<;>simp only[aL.bare,AOp.bare,AOp.bare0] at q7<;>try(cases q7;done)
      .exact⟨_,_,_,_,.inl rfl⟩
      .exact⟨_,_,_,_,.inr rfl⟩
     have q2':eY y=false:=by
      obtain⟨k',b',A',X',h|h⟩:=ky<;>simp only[eY,h,qK,Dy]
     refine⟨hbor k x ⟨_,hki,hpp,hpa,.inl rfl⟩ hx q1,q2',q3,q4,.inr ?_⟩;obtain⟨k',b',A',X',hky⟩:=ky;refine⟨k',b',A',X',.tmp 0,hky,.inr ?_⟩;obtain⟨dx,opx,gx⟩:=x;cases opx<;>simp only[aL.bare,AOp.bare,AOp.bare0] at q8<;>try(cases q8;done)
     case load g n a=>exact absurd rfl (hmark.1 g n a)
     case fieldAddr o a=>exact absurd rfl (hmark.2 o a)
     case loadV g n a=>exact trivial
     case fieldV o a=>exact trivial
    .right;right
     have hh:=h1;simp only[aJk,Au,qC,Bz,(bI y).2.2.1,(bI x).2.2.1,(bI y).2.1,Option.isNone_iff_eq_none] at h1;obtain⟨⟨⟨⟨⟨⟨⟨q1,q2⟩,q3⟩,q4⟩,q5⟩,q6⟩,q7⟩,q8⟩:=h1;obtain⟨d,hdy⟩:=AQ.1 q6;have hmark:=hno i y d hy hdy (hmk k i x y _ hki hN hx hy (by unfold aFA;rw[AY hh,(bI y).2.1,hdy];exact Df _ (Ar.2 rfl)))
     have kx:∃k b A X,x.op=.append k b A X∨x.op=.appendC k b A X:=by
      obtain⟨dx,opx,gx⟩:=x;cases opx<;>simp only[aL.bare,AOp.bare,AOp.bare0] at q7<;>try(cases q7;done)
      .exact⟨_,_,_,_,.inl rfl⟩
      .exact⟨_,_,_,_,.inr rfl⟩
     have q1':eY x=false:=by
      obtain⟨k',b',A',X',h|h⟩:=kx<;>simp only[eY,h,qK,Dy]
     refine⟨q1',hbor i y ⟨_,hki,hpp,hpa,.inr rfl⟩ hy q2,q3,q4,q5,kx,?_⟩;obtain⟨dy,opy,gy⟩:=y;cases opy<;>simp only[aL.bare,AOp.bare,AOp.bare0] at q8<;>try(cases q8;done)
     case load g n a=>exact absurd rfl (hmark.1 g n a)
     case fieldAddr o a=>exact absurd rfl (hmark.2 o a)
     case loadV g n a=>subst q8;exact .inl (.inl ⟨_,_,rfl⟩)
     case fieldV o a=>exact .inl (.inr ⟨_,_,rfl⟩)
  have hplan:Plan P C ops aops F:=by
   refine⟨λj ao hj=>?_,hlen,λi o ho e he hb=>?_,λk i hk hi hf hna=>?_,λk hF x d hx hd j y hjk hy hyd=>?_⟩
   .obtain⟨o,q1,q2⟩:=g2 j ao hj;exact⟨o,by simpa using q1,q2⟩
   .simp only[aMq,Aw,BI] at hback;have:=hback i (Cc.1 ho).1;rw[ho] at this;have:=Array.all_eq_true'.1 this e he;simpa[hb] using this
   .have hm':=hmem k i hk hi hf
    have hpp:(aCU (aops.map aL.bare) k i||aAT ops (aops.map aL.bare) k i)=true:=by
     have:=hpairs (k,i) hm';simp only[hna,Bool.or_false] at this;exact this
    exact⟨⟨_,hm',hpp,hna,.inl rfl⟩,⟨_,hm',hpp,hna,.inr rfl⟩,λx y hx hy=>(hpair k i hm' hpp hna x y hx hy).1⟩
   .obtain⟨⟨k',i'⟩,hp,hpp,hpa,hpk⟩:=hF
    have hlt:k'<aops.length∧i'<aops.length:=by
     simp only[qP,Dm,BI,List.mem_filterMap] at hp;obtain⟨i2,h1,k2,h2,h3⟩:=hp;split at h3
     .simp only[Aj,AZ] at h3;omega
     .cases h3
    have hu:=hpair k' i' hp hpp hpa aops[k'] aops[i'] (by simp[hlt.1]) (by simp[hlt.2])
    have hu:wR (aops.map aL.bare) k=true:=by
     rcases hpk with h|h
     .simp only at h;subst h;exact hu.2.1
     .simp only at h;subst h;exact hu.2.2
    unfold wR at hu;have e1:((aops.map aL.bare)[k]?).bind (·.dst)=some d:=by rw[bareAt k x hx];simp[(bI x).2.1,hd]
    have e2:((aops.map aL.bare)[j]?).bind (·.dst)=some d:=by rw[bareAt j y hy];simp[(bI y).2.1,hyd]
    rw[e1] at hu;simp only[Aw,BI,BC] at hu;have hjl:=(CL.1 hy).1;have:=hu j hjl;rw[e2] at this;simp[hjk] at this
  have hok':OK C σ.f a {w with drawn:=w.drawn+1} S ρ κ:=hok.ext (Ext.of_heap rfl rfl rfl);refine wp_region_any hm ?_;refine aNi hplan hQ ops.size (List.range ops.size) _ σ a _ S ρ κ (by simp) List.pairwise_lt_range (by simp) (λi=>?_) (λi _ hF x d hx hd=>hjunk i x d hF hx hd) (λj o ho hl=>?_) ?_ hok'
  .simp only[BI];constructor
   .intro h;exact⟨h,by simp[h]⟩
   .exact λh=>h.1
  .exfalso;have hj:=(Cc.1 ho).1;simp[hj] at hl
  .have e:atL aops (List.range ops.size)=aops:=by
    rw[hlen];unfold atL
    have:∀(l:List aL) (k:Nat),(List.range' k l.length).filterMap (λi=>(List.replicate k default++l)[i]?)=l:=by
     intro l
     induction l with
     |nil=>intro k;simp
     | cons x r ih =>
      intro k;rw[Aa,List.range'_succ,List.filterMap_cons];have h1:(List.replicate k default++x::r)[k]? = some x:=by simp
      rw[h1];have:=ih (k+1);rw[show List.replicate k (default:aL)++x::r=(List.replicate k default++[x])++r by simp]
      have h2:∀i,i∈List.range' (k+1) r.length->((List.replicate k (default:aL)++[x])++r)[i]? = (List.replicate (k+1) default++r)[i]?:=by
       intro i hi;have:=(Dx.1 hi).1;rw[Bv (by simp;omega),Bv (by simp;omega)];simp
      rw[yD h2];simp only;exact Bd (x :: ·) this
    have:=this aops 0;simp only[Ah,Af] at this;rw[List.range_eq_range',this]
   rw[e];exact aI7 aops σ hv
 .cases hd
def l8 (P:Program) (f:FuncId) (fn:Func) (ac:aF):Prop:=
 P.funcs[f]? = some fn∧(fn.body.bind (bM P fn.ntmps (fK P)))=some ac.bare∧(fn.name != "runtime.NumGoroutine")=true
theorem l8.fn {f:FuncId}{fn:Func}{ac:aF} (h:l8 P f fn ac) (Y:P.follows .mixedOrders=true) {hin:List Blk}{args:List AV}{r:AV}{u:List (Option Blk)} (nt:Nat) (rs:List ResultVar) (B:List Name) (hout:List Blk) (H:fn.ntmps=nt) (I:fn.results.toList=rs)
  (Z:u=hout.map some) (F:args.length<=nt) (G:nodupB B=true) (O:∀j,j<hin.length->B[j]? = some (.b j))
  (hw:∀C:Ctx,wpc P C (fK P) ac (aAQ P rs B r hout) (λe σ=>match e with|.ret=>aAQ P rs B r hout σ|.exit _=>False) ⟨ini 0 args,xW 0 hin⟩) :
  Fn P f hin args r u:=by
 subst H;subst I;subst Z;obtain⟨L,h2,M⟩:=h;obtain⟨J,U,V⟩:=Ca.1 h2;exact Fn.intro (qA Y) B L U (by simpa using M) V F (pQ G) O λC _=>hw C
end
end Go.Vs
