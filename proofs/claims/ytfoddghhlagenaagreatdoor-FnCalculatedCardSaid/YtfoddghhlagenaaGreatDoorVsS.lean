/- What an operation depends on: the values of its operands, and the blocks that they reach. -/
import Derived.Test.YtfoddghhlagenaaGreatDoorVsN
set_option linter.all false
set_option maxHeartbeats 8000000
namespace Go.Vs
section
variable [Envs]
variable {P:Program}{C:Ctx}{a:Act}{w:World}{S:Nat->Prop}{ρ:Name->Option Nat}{κ:Name->Nat}
def vc (P:Program) (K:St->Prop):List aH->St->Prop
 | [],σ=>K σ
 | o::r,σ=>match o.guard with
  |none=>aV P o.dst σ (vc P K r) o.op
  | some (g,want)=>match look σ.s g with
   |.v (.bool b)=>BrW b want (aV P o.dst σ (vc P K r) o.op) (vc P K r ⟨put o.dst (.v (.tuple #[])) σ.s,σ.h⟩)
   |.v (.tuple _)=>vc P K r ⟨put o.dst (.v (.tuple #[])) σ.s,σ.h⟩
   |_=>False
def aH.bare (o:aH):aH:={o with op:=o.op.bare}
def gY (P:Program) (nt:Nat) (ops:Array Oper) (o:Oper):Option aH:=
 match comp P o.op with
 |none=>none
 | some op=>if o.dst.all (λd=>decide (d<nt)) then
   match o.guard with
   |none=>some ⟨o.dst,op,none⟩
   | some (j,want)=>match(ops[j]?).bind (·.dst) with
    |some t=>some ⟨o.dst,op,some (t,want)⟩
    |none=>none
  else none
theorem dR {nt:Nat}{ops:Array Oper}{o:Oper}{ao:aH} (h:gY P nt ops o=some ao.bare):comp P o.op=some ao.op.bare∧o.dst=ao.dst∧(∀d,o.dst=some d->d<nt)∧
  ((o.guard=none∧ao.guard=none)∨∃j want t,o.guard=some (j,want)∧ao.guard=some (t,want)∧(ops[j]?).bind (·.dst)=some t):=by
 grind [gY,aH.bare]
theorem qQ {σ:St}{ops:Array Oper}{o:Oper}{j t:Nat}{want b:Bool} (hok:OK C σ.f a w S ρ κ) (hg:o.guard=some (j,want)) (ht:(ops[j]?).bind (·.dst)=some t) (hl:look σ.s t=.v (.bool b)) :
  Region.wanted o (yielded ops a.tmps)=(b==want):=by
 have hr:=hok.slots t
 simp only[St.f] at hr
 rw[hl] at hr
 have hv:=aZ hr
 have:a.tmps[t]? = some (.bool b):=by
  cases hx:a.tmps[t]? with
  | none =>
   grind [undef]
  | some u =>
   have:a.tmps.getD t undef=u:=by simp[hx]
   rw[this] at hv;rw[hv]
 simp[Region.wanted,hg,yielded,ht,this]
theorem qP {σ:St}{ops:Array Oper}{o:Oper}{j t:Nat}{want:Bool}{cs:Array Value} (hok:OK C σ.f a w S ρ κ) (hg:o.guard=some (j,want)) (ht:(ops[j]?).bind (·.dst)=some t) (hl:look σ.s t=.v (.tuple cs)) :
  Region.wanted o (yielded ops a.tmps)=false:=by
 have hr:=hok.slots t
 simp only[St.f] at hr
 rw[hl] at hr
 have hv:=aZ hr
 cases hx:a.tmps[t]? with
 |none=>simp[Region.wanted,hg,yielded,ht,hx]
 | some u =>
  have:a.tmps.getD t undef=u:=by simp[hx]
  all_goals grind [Region.wanted,yielded]
theorem yX {ops:Array Oper}{Q:Exit->Act->World->Prop}{K:St->Prop} (hQ:∀a w,bK C K a w->Q .normal a w):∀(aops:List aH) (k:Nat),(∀j ao,aops[j]? = some ao->∃o,ops[k+j]? = some o∧gY P C.nt ops o=some ao.bare)->
  ∀(σ:St) (a:Act) (w:World) (S:Nat->Prop) (ρ:Name->Option Nat) (κ:Name->Nat),vc P K aops σ->OK C σ.f a w S ρ κ->wpOps P ops Q (List.range' k aops.length) a w
 | [],k,_,σ,a,w,S,ρ,κ,hv,hok=>hQ a w ⟨σ,S,ρ,κ,hv,hok⟩
 | ao::r,k,hs,σ,a,w,S,ρ,κ,hv,hok=>by
  obtain⟨o,ho,hc⟩:=hs 0 ao (by simp)
  simp only[Nat.add_zero] at ho
  obtain⟨h1,h2,h3,h4⟩:=dR hc
  rw[List.length_cons,List.range'_succ,wpOps_cons]
  have ih:=yX hQ r (k+1) (λj ao' hj=>by
    obtain⟨o',g1,g2⟩:=hs (j+1) ao' (by simpa using hj)
    exact⟨o',by rw[show k+1+j=k+(j+1) by omega];exact g1,g2⟩)
  have go:aV P ao.dst σ (vc P K r) ao.op->o.wp P a w (wpOps P ops Q (List.range' (k+1) r.length)) Q:=λhst =>
   Oper.wp_mono (λa' w' ⟨σ',S',ρ',κ',hK,hok'⟩=>ih σ' a' w' S' ρ' κ' hK hok') (oG (P:=P) h1 hok h3 (by rw[h2];exact hst))
  unfold wpOp
  rw[ho]
  simp only[vc] at hv
  rcases h4 with⟨g1,g2⟩|⟨j,want,t,g1,g2,g3⟩
  .grind [Region.wanted]
  .rw[g2] at hv
   simp only at hv
   split at hv
   .rename_i b hb
    have hw:=qQ hok g1 g3 hb
    simp only[hw]
    by_cases hbw:b=want
    .simp only[hbw,beq_self_eq_true,if_true]
     exact .inl (go ((gX.1 hv).1 hbw))
    .have:(b==want)=false:=by simpa using hbw
     simp only[this,Bool.false_eq_true,if_false]
     have hn:b = !want:=by cases b<;>cases want<;>simp_all
     refine ih _ _ _ S ρ κ ((gX.1 hv).2 hn) ?_
     have:=hok.put (x:=.v undef) (v:=undef) (.clo (.v _)) h3
     all_goals grind [St.f,fU,undef]
   .rename_i cs hb
    have hw:=qP hok g1 g3 hb
    simp only[hw,Bool.false_eq_true,if_false]
    refine ih _ _ _ S ρ κ hv ?_
    have:=hok.put (x:=.v undef) (v:=undef) (.clo (.v _)) h3
    all_goals grind [St.f,fU,undef]
   .exact hv.elim
/-! ## code -/
inductive gP where
 |ret
 |exit (i:Nat)
inductive aD where
 |skip
 |region (ops:List aH) (out:List Nat) (fl:List Nat)
 |seq (x y:aD)
 |cond (c:Operand) (x y:aD)
 |block (id:Nat) (c:aD)
 |loop (c:aD)
 |exit (id:Nat)
 |ret
 |closing (t:Nat) (c:aD)
 |naming (t:Nat) (c:aD)
def pE (s:List (Nat×AV)):List Nat->List (Nat×AV)
 | []=>[]
 |t::r=>(t,look s t)::pE s r
theorem uT (s:List (Nat×AV)):∀(l:List Nat) (t:Nat),look (pE s l) t=look s t∨look (pE s l) t=.junk
 | [],t=>.inr rfl
 | i::r,t=>by
  simp only[pE,look]
  split
  .subst_vars;exact .inl rfl
  .exact uT s r t
theorem OK.less {σ σ':FSt} (hok:OK C σ a w S ρ κ) (hs:∀t,σ'.s t=σ.s t∨σ'.s t=.junk) (hh:∀n b,σ'.h n=some b->σ.h n=some b):OK C σ' a w S ρ κ:=by
 have hn:∀m,dK ρ ρ κ κ σ.h σ'.h m:=λm b hb=>⟨rfl,rfl,b,hh m b hb,b.same_refl⟩
 have hsome:∀m,(σ'.h m).isSome->(σ.h m).isSome:=by
  intro m hm
  obtain⟨b,hb⟩:=Option.isSome_iff_exists.1 hm
  simp[hh m b hb]
 refine⟨hok.nt,hok.defers,λt=>?_,⟨λm b hb=>?_,λm m' y h1 h2 h3 h4=>hok.hok.inj m m' y (hsome m h1) (hsome m' h2) h3 h4,hok.hok.dom,hok.hok.env⟩,hok.size,hok.old,λm y h1 h2=>hok.mine m y (hsome m h1) h2,hok.S0,hok.Snew,hok.out,λj b hb=>hok.keep j b (hh _ _ hb)⟩
 .rcases hs t with e|e
  .rw[e];exact(hok.slots t).mono (λ_ h=>h) (λ_ _=>rfl) λm _=>hn m
  .rw[e];exact .junk _
 .exact(hok.hok.blk m b (hh m b hb)).mono (λ_ h=>h) (λ_ _ h=>h) (λ_ _=>rfl) (λ_ _=>rfl) rfl rfl λm _=>hn m
def vD (P:Program) (nt:Nat) (ops:Array Oper):List Oper->Option (List aH)
 | []=>some []
 | o::r=>match gY P nt ops o,vD P nt ops r with
  |some x,some l=>some (x::l)
  |_,_=>none
def aU (P:Program) (nt:Nat) (drawn:Nat->Array Oper->Option (List Nat)):Code->Option aD
 |.skip=>some .skip
 | .region _ ops draw=>match(if draw then drawn nt ops else some []) with
  |some fl=>(vD P nt ops ops.toList).map λl=>.region l [] fl
  |none=>none
 | .seq x y=>match aU P nt drawn x,aU P nt drawn y with
  |some x,some y=>some (.seq x y)
  |_,_=>none
 | .cond c x y=>match aU P nt drawn x,aU P nt drawn y with
  |some x,some y=>some (.cond c x y)
  |_,_=>none
 |.block id x=>(aU P nt drawn x).map (.block id)
 |.loop x=>(aU P nt drawn x).map .loop
 |.exit id=>some (.exit id)
 |.ret=>some .ret
 |_=>none
def aD.bare:aD->aD
 |.region ops _ fl=>.region (ops.map aH.bare) [] fl
 |.seq x y=>.seq x.bare y.bare
 |.cond c x y=>.cond c x.bare y.bare
 |.block id x=>.block id x.bare
 |.loop x=>.loop x.bare
 |.closing _ x=>x.bare
 |.naming _ x=>x.bare
 |c=>c
theorem gW {nt:Nat}{ops:Array Oper}:∀{l:List Oper}{r:List aH},vD P nt ops l=some (r.map aH.bare)->l.length=r.length∧∀(j:Nat) (ao:aH),r[j]? = some ao->∃o,l[j]? = some o∧gY P nt ops o=some ao.bare
 | [],r,h=>by
  simp only[vD,Option.some.injEq] at h
  have:r=[]:=by simpa using h.symm
  subst this;simp
 | o::l,r,h=>by
  simp only[vD] at h
  split at h
  .rename_i x l' h1 h2
   cases r with
   |nil=>simp at h
   | cons ao r =>
    simp only[List.map_cons,Option.some.injEq,List.cons.injEq] at h
    obtain⟨rfl,rfl⟩:=h
    obtain⟨g1,g2⟩:=gW h2
    all_goals grind
  .cases h
def uY (fl:List Nat) (ops:List aH) (σ:St):Bool:=
 !fl.contains 3000000&&((fl.all λd=>σ.s.all λp=>!(p.1==d))&&ops.all λo=>match o.op,o.dst with
   |.call _ _ bor,some d=>bor.isEmpty||!fl.contains d||fl.contains (d+2000000)
   |.bsliceC ..,some d=>!fl.contains d
   |.load ..,some d=>!fl.contains (d+1000000)
   |.fieldAddr ..,some d=>!fl.contains (d+1000000)
   |_,_=>true)
def iO (P:Program) (drawn:Nat->Array Oper->Option (List Nat)):Prop:=
 ∀ (C:Ctx) (id:Nat) (ops:Array Oper) (aops:List aH) (fl:List Nat) (K:St->Prop) (Q:Exit->Act->World->Prop) (σ:St) (a:Act) (w:World) (S:Nat->Prop) (ρ:Name->Option Nat) (κ:Name->Nat),
  drawn C.nt ops=some fl->vD P C.nt ops ops.toList=some (aops.map aH.bare)->uY fl aops σ=true->(∀a w,bK C K a w->Q .normal a w)->vc P K aops σ->OK C σ.f a w S ρ κ->(Code.region id ops true).wp P Q a w
def qN (P:Program) (C:Ctx) (drawn:Nat->Array Oper->Option (List Nat)) (ac:aD) (N:St->Prop) (E:gP->St->Prop) (σ:St):Prop:=
 ∀ (c:Code) (Q:Exit->Act->World->Prop) (a:Act) (w:World) (S:Nat->Prop) (ρ:Name->Option Nat) (κ:Name->Nat),aU P C.nt drawn c=some ac.bare->
  (∀a w,bK C N a w->Q .normal a w)->(∀i a w,bK C (E (.exit i)) a w->Q (.exit i) a w)->(∀a w,bK C (E .ret) a w->Q .ret a w)->OK C σ.f a w S ρ κ->c.wp P Q a w
def RgK (b:Bool) (A X:Prop) (_:Tag (b,A,X)):Prop:=(b=true∧A)∨X
theorem RgK.mk {b:Bool}{A X:Prop}{t:Tag (b,A,X)} (h1:b=true) (h2:A):RgK b A X t:=.inl ⟨h1,h2⟩
theorem RgK.or {b:Bool}{A X:Prop}{t:Tag (b,A,X)} (h:X):RgK b A X t:=.inr h
def bA (P:Program) (C:Ctx) (drawn:Nat->Array Oper->Option (List Nat)) (c:aD) (N:St->Prop) (E:gP->St->Prop) (σ:St) (_:Tag (N,E)):Prop:=qN P C drawn (.loop c) N E σ
def wpc (P:Program) (C:Ctx) (drawn:Nat->Array Oper->Option (List Nat)):aD->(St->Prop)->(gP->St->Prop)->St->Prop
 |.skip,N,_,σ=>N σ
 | .region ops out fl,N,E,σ=>match fl with
  | []=>vc P (fun σ'=>N ⟨pE σ'.s out,σ'.h⟩) ops σ
  |d::r=>RgK (uY (d::r) ops σ) (vc P (fun σ'=>N ⟨pE σ'.s out,σ'.h⟩) ops σ) (qN P C drawn (.region ops out (d::r)) N E σ) .x
 |.seq x y,N,E,σ=>wpc P C drawn x (wpc P C drawn y N E) E σ
 | .cond c x y,N,E,σ=>match evO (look σ.s) c with
  |.v (.bool b)=>Br b (wpc P C drawn x N E σ) (wpc P C drawn y N E σ) .x
  |_=>False
 | .block id x,N,E,σ=>wpc P C drawn x N (λe σ'=>match e with
   |.exit i=>(i=id->N σ')∧(i≠id->E (.exit i) σ')
   |.ret=>E .ret σ') σ
 |.loop x,N,E,σ=>bA P C drawn x N E σ .x
 |.exit id,_,E,σ=>E (.exit id) σ
 |.ret,_,E,σ=>E .ret σ
 |.closing t x,N,E,σ=>wpc P C drawn x (fun σ'=>aAm t σ' N) E σ
 |.naming t x,N,E,σ=>wpc P C drawn x (fun σ'=>aB8 t σ' N) E σ
theorem uK {drawn:Nat->Array Oper->Option (List Nat)} (hdr:iO P drawn):∀(ac:aD) (N:St->Prop) (E:gP->St->Prop) (σ:St),wpc P C drawn ac N E σ->qN P C drawn ac N E σ:=by
 intro ac
 induction ac with
 | skip =>
  intro N E σ hv c Q a w S ρ κ hc hN hE hR hok
  cases c<;>simp[aU,aD.bare] at hc
  case skip=>exact wp_skip (hN a w ⟨σ,S,ρ,κ,hv,hok⟩)
  all_goals(first|(split at hc<;>simp at hc)|skip)
 | region ops out fl =>
  intro N E σ hv c Q a w S ρ κ hc hN hE hR hok
  have hv:(uY fl ops σ=true∧vc P (fun σ'=>N ⟨pE σ'.s out,σ'.h⟩) ops σ)∨qN P C drawn (.region ops out fl) N E σ:=by
   cases fl with
   | nil =>
    refine .inl ⟨?_,hv⟩
    simp only[uY,List.all_nil,List.contains_nil,Bool.not_false,Bool.true_and,List.all_eq_true]
    intro o _
    split<;>simp
   |cons d r=>exact hv
  rcases hv with hv|hv
  rotate_left
  .exact hv c Q a w S ρ κ hc hN hE hR hok
  have hN':∀a w,bK C (fun σ'=>N ⟨pE σ'.s out,σ'.h⟩) a w->Q .normal a w:=by
   rintro a w ⟨σ',S',ρ',κ',hK,hok'⟩
   exact hN a w ⟨_,S',ρ',κ',hK,hok'.less (uT _ _) (λ_ _ h=>h)⟩
  cases c
  case region id cops draw =>
   simp only[aU,aD.bare] at hc
   split at hc
   .rename_i fl' hdraw
    cases ho:vD P C.nt cops cops.toList with
    |none=>rw[ho] at hc;cases hc
    | some l =>
     rw[ho] at hc
     simp only[Option.map_some,Option.some.injEq,aD.region.injEq,true_and] at hc
     obtain⟨hc,rfl⟩:=hc
     subst hc
     cases draw with
     | false =>
      obtain⟨g1,g2⟩:=gW ho
      refine wp_region ?_
      have:=yX (P:=P) hN' ops 0 (λj ao hj=>by
        obtain⟨o,q1,q2⟩:=g2 j ao hj
        exact⟨o,by simpa using q1,q2⟩) σ a w S ρ κ hv.2 hok
      all_goals grind [List.range_eq_range']
     | true =>
      grind [iO]
   .cases hc
  all_goals(simp only[aU,aD.bare] at hc;first|(cases hc;done)|(split at hc<;>simp at hc)|(simp at hc))
 | seq x y ihx ihy =>
  intro N E σ hv c Q a w S ρ κ hc hN hE hR hok
  cases c
  case seq cx cy =>
   simp only[aU,aD.bare] at hc
   split at hc
   .rename_i x' y' h1 h2
    simp only[Option.some.injEq,aD.seq.injEq] at hc
    obtain⟨rfl,rfl⟩:=hc
    refine wp_seq (ihx _ _ _ hv cx _ a w S ρ κ h1 (λa w hg=>?_) hE hR hok)
    obtain⟨σ',S',ρ',κ',hK,hok'⟩:=hg
    exact ihy _ _ _ hK cy Q a w S' ρ' κ' h2 hN hE hR hok'
   .cases hc
  all_goals(simp only[aU,aD.bare] at hc;first|(cases hc;done)|(split at hc<;>simp at hc)|(simp at hc))
 | cond cc x y ihx ihy =>
  intro N E σ hv c Q a w S ρ κ hc hN hE hR hok
  cases c
  case cond co cx cy =>
   simp only[aU,aD.bare] at hc
   split at hc
   .rename_i x' y' h1 h2
    simp only[Option.some.injEq,aD.cond.injEq] at hc
    obtain⟨rfl,rfl,rfl⟩:=hc
    simp only[wpc] at hv
    split at hv
    .rename_i b hb
     have hev:=hok.ev co
     rw[show evO σ.f.s co=_ from hb] at hev
     have hb':=aZ hev
     cases b
     .exact wp_cond_false hb' (ihy _ _ _ (hv.get.2 rfl) cy Q a w S ρ κ h2 hN hE hR hok)
     .exact wp_cond_true hb' (ihx _ _ _ (hv.get.1 rfl) cx Q a w S ρ κ h1 hN hE hR hok)
    .exact hv.elim
   .cases hc
  all_goals(simp only[aU,aD.bare] at hc;first|(cases hc;done)|(split at hc<;>simp at hc)|(simp at hc))
 | block id x ih =>
  intro N E σ hv c Q a w S ρ κ hc hN hE hR hok
  cases c
  case block cid cx =>
   simp only[aU,aD.bare] at hc
   cases h1:aU P C.nt drawn cx with
   |none=>rw[h1] at hc;cases hc
   | some x' =>
    rw[h1] at hc
    simp only[Option.map_some,Option.some.injEq,aD.block.injEq] at hc
    obtain⟨rfl,rfl⟩:=hc
    refine wp_block (ih _ _ _ hv cx _ a w S ρ κ h1 (λa w hg=>hN a w hg) (λi a w hg=>?_) (λa w hg=>hR a w hg) hok)
    obtain⟨σ',S',ρ',κ',hK,hok'⟩:=hg
    simp only[Exit.inBlock]
    by_cases hi:i=cid
    .rw[if_pos hi];exact hN a w ⟨σ',S',ρ',κ',hK.1 hi,hok'⟩
    .rw[if_neg hi];exact hE i a w ⟨σ',S',ρ',κ',hK.2 hi,hok'⟩
  all_goals(simp only[aU,aD.bare] at hc;first|(cases hc;done)|(split at hc<;>simp at hc)|(simp at hc))
 |loop x ih=>intro N E σ hv;exact hv
 | exit id =>
  intro N E σ hv c Q a w S ρ κ hc hN hE hR hok
  cases c
  case exit cid =>
   simp only[aU,aD.bare,Option.some.injEq,aD.exit.injEq] at hc
   subst hc
   exact wp_exit (hE _ a w ⟨σ,S,ρ,κ,hv,hok⟩)
  all_goals(simp only[aU,aD.bare] at hc;first|(cases hc;done)|(split at hc<;>simp at hc)|(simp at hc))
 | ret =>
  intro N E σ hv c Q a w S ρ κ hc hN hE hR hok
  cases c
  case ret=>exact wp_ret (hR a w ⟨σ,S,ρ,κ,hv,hok⟩)
  all_goals(simp only[aU,aD.bare] at hc;first|(cases hc;done)|(split at hc<;>simp at hc)|(simp at hc))
 | closing t x ih =>
  intro N E σ hv c Q a w S ρ κ hc hN hE hR hok
  refine ih _ _ _ hv c Q a w S ρ κ hc (λa' w' hg=>?_) hE hR hok
  obtain⟨σ',S',ρ',κ',hcl,hok'⟩:=hg
  exact hN a' w' (aA7 hcl hok')
 | naming t x ih =>
  intro N E σ hv c Q a w S ρ κ hc hN hE hR hok
  refine ih _ _ _ hv c Q a w S ρ κ hc (λa' w' hg=>?_) hE hR hok
  obtain⟨σ',S',ρ',κ',hcl,hok'⟩:=hg
  exact hN a' w' (aBp hcl hok')
def LeL (σ σ':St):Prop:=(∀p,p∈σ'.s->look σ.s p.1=p.2∨p.2=.junk)∧∀p,p∈σ'.h->aA σ.h p.1=some p.2
theorem OK.le {σ σ':St} (hok:OK C σ.f a w S ρ κ) (h:LeL σ σ'):OK C σ'.f a w S ρ κ:=by
 refine hok.less (λt=>?_) (λn b hb=>h.2 _ (nX _ _ _ hb))
 have key:∀(l:List (Nat×AV)),(∀p,p∈l->look σ.s p.1=p.2∨p.2=.junk)->look l t=look σ.s t∨look l t=.junk:=by
  intro l
  induction l with
  |nil=>intro _;exact .inr rfl
  | cons p r ih =>
   grind [look]
 exact key σ'.s h.1
theorem least (p:Nat->Prop) (h:∃n,p n):∃n,p n∧∀m,p m->n<=m:=by
 classical
 obtain⟨n,hn⟩:=h
 induction n using Nat.strongRecOn with
 | ind n ih =>
  grind
theorem bA.intro {drawn:Nat->Array Oper->Option (List Nat)} (hdr:iO P drawn) {X:Type} (Inv:X->St) (μ:X->Nat) (x0:X) {c:aD}{N:St->Prop}{E:gP->St->Prop}{σ:St}{tg:Tag (N,E)} (h0:LeL σ (Inv x0))
  (hr:∀x,wpc P C drawn c (fun σ'=>∃x',LeL σ' (Inv x')∧μ x'<μ x) E (Inv x)):bA P C drawn c N E σ tg:=by
 show qN P C drawn (.loop c) N E σ
 intro code Q a w S ρ κ hc hN hE hR hok
 cases code
 case loop cx =>
  simp only[aU,aD.bare] at hc
  cases h1:aU P C.nt drawn cx with
  |none=>rw[h1] at hc;cases hc
  | some x' =>
   rw[h1] at hc
   simp only[Option.map_some,Option.some.injEq,aD.loop.injEq] at hc
   subst hc
   classical
   let G:Act->World->Prop:=λa w=>∃x S ρ κ,OK C (Inv x).f a w S ρ κ
   let m:Act->World->Nat:=λa w=>if h:∃n x,μ x=n∧∃S ρ κ,OK C (Inv x).f a w S ρ κ then(least _ h).choose else 0
   refine wp_loop G m ⟨x0,S,ρ,κ,hok.le h0⟩ ?_
   rintro a w hG
   have hex:∃n x,μ x=n∧∃S ρ κ,OK C (Inv x).f a w S ρ κ:=by
    grind
   obtain⟨x,hx,S,ρ,κ,hokx⟩:=(least _ hex).choose_spec.1
   have hm:m a w=μ x:=by simp only[m,dif_pos hex];exact hx.symm
   refine uK hdr c _ _ _ (hr x) cx _ a w S ρ κ h1 (λa' w' hg=>?_) hE hR hokx
   obtain⟨σ',S',ρ',κ',⟨x',hle,hlt⟩,hok'⟩:=hg
   have hok2:=hok'.le hle
   refine⟨⟨x',S',ρ',κ',hok2⟩,?_⟩
   have hex':∃n x,μ x=n∧∃S ρ κ,OK C (Inv x).f a' w' S ρ κ:=⟨μ x',x',rfl,S',ρ',κ',hok2⟩
   have:m a' w'<=μ x':=by
    simp only[m,dif_pos hex']
    exact(least _ hex').choose_spec.2 _ ⟨x',rfl,S',ρ',κ',hok2⟩
   omega
 all_goals(simp only[aU,aD.bare] at hc;first|(cases hc;done)|(split at hc<;>simp at hc)|(simp at hc))
end
section
variable [Envs]
variable {P:Program}{C:Ctx}{a:Act}{w:World}{S:Nat->Prop}{ρ:Name->Option Nat}{κ:Name->Nat}{h:Name->Option Blk}
theorem aCM (hok:HOK S w ρ κ h) {S':Nat->Prop} (hS:∀b,S b->S' b) {E:List Name}{ρ':Name->Option Nat}{κ':Name->Nat}{h':Name->Option Blk}
  (hE:∀j n,E[j]? = some n->ρ' (.b j)=ρ n∧κ' (.b j)=κ n∧∀b',h' (.b j)=some b'->∃b,h n=some b∧b.same b') {c:Bool}
  {cs cs':List AV}{L:List Name}{vs:Array Value} (hm:bO (conv h 8 E c) cs=some (cs',L)) (hL:∀n,n∈L->∀y,ρ n=some y->S' y) (hr:∀j,j<cs.length->RV S w ρ κ h (cs.getD j .junk) (vs.getD j undef)) :
  ∀n,n∈L->n∉E∧(h n).isSome:=by
 intro n hn
 obtain⟨j,hj,Lj,g1,g2⟩:=tX hm n hn
 obtain⟨Lj',g1',g3⟩:=(fD hm).2 j hj
 rw[g1] at g1'
 simp only[Option.some.injEq,Prod.mk.injEq,true_and] at g1'
 subst g1'
 exact(rF hok hS hE 8 c _ _ _ _ g1 (λm hm=>hL m (g3 m hm)) (hr j hj)).2.2 n g2
theorem aA1 (hok:HOK S w ρ κ h) {B:List Name} (hnd:B.Nodup) {x y:AV}{v:Value}{hout:List Blk}{L1 L2:List Name} (hx:RV S w ρ κ h x v)
  (hc:conv h 8 B false x=some (y,L1)) (hbs:oD h B B=some (hout,L2)) :
  ∃ (S':Nat->Prop) (ρ':Name->Option Nat) (κ':Name->Nat),HOK S' w ρ' κ' (Hn (hout.map some))∧RV S' w ρ' κ' (Hn (hout.map some)) y v∧(∀b,S b->S' b)∧
   (∀b,S' b->S b∨∃n,(h n).isSome∧ρ n=some b)∧(∀j z,(((hout.map some).getD j none).isSome)->ρ' (.b j)=some z->∃n,(h n).isSome∧ρ n=some z)∧
   ∀j n,B[j]? = some n->ρ' (.b j)=ρ n∧κ' (.b j)=κ n∧∀b',Hn (hout.map some) (.b j)=some b'->∃b,h n=some b∧b.same b':=by
 obtain⟨hbl,hbj,hbm⟩:=oV _ _ hbs
 let L:=L1++L2
 let S1:Nat->Prop:=λy=>S y∨∃n,n∈L∧ρ n=some y
 let ρ0:Name->Option Nat:=λm=>match m with|.b j=>(B[j]?).bind ρ|.t _ _=>none
 let κ0:Name->Nat:=λm=>match m with|.b j=>((B[j]?).map κ).getD 0|.t _ _=>0
 have hS1:∀y,S y->S1 y:=λy hy=>.inl hy
 have hL1:∀n,n∈L1->n∈L:=λn hn=>List.mem_append_left _ hn
 have hL2:∀n,n∈L2->n∈L:=λn hn=>List.mem_append_right _ hn
 have hE:∀j n,B[j]? = some n->ρ0 (.b j)=ρ n∧κ0 (.b j)=κ n∧∀b',Hn (hout.map some) (.b j)=some b'->∃b,h n=some b∧b.same b':=by
  intro j n hj
  refine⟨by simp[ρ0,hj],by simp[κ0,hj],λb' hb'=>?_⟩
  obtain⟨b,b2,Lj,g1,g2,g3,_,_⟩:=hbj j n hj
  have:b'=b2:=by
   grind [Hn]
  subst this
  refine⟨b,g1,?_⟩
  cases b with
  | var c z =>
   simp only[gL] at g2
   cases hm:bO (conv h 8 B false) c with
   |none=>rw[hm] at g2;cases g2
   | some p =>
    rw[hm] at g2
    simp only[Option.map_some,Option.some.injEq,Prod.mk.injEq] at g2
    rw[←g2.1]
    exact((fD hm).1).symm
  | arr k l z =>
   grind [gL,Blk.same_refl]
 have hLS:∀m,m∈L->∀y,ρ m=some y->S1 y:=λm hm y hy=>.inr ⟨m,hm,hy⟩
 have spec:=rF hok hS1 (κ':=κ0) hE 8
 have hlent:∀n,n∈L->n∉B∧(h n).isSome:=by
  intro n hn
  rcases List.mem_append.1 hn with hn|hn
  .exact(spec false _ _ _ _ hc (λm hm=>hLS m (hL1 m hm)) hx).2.2 n hn
  .obtain⟨n',b,b',Lj,g1,g2,g3,g4⟩:=hbm n hn
   cases b with
   | arr k l z =>
    grind [gL]
   | var c z =>
    simp only[gL] at g3
    cases hm:bO (conv h 8 B false) c with
    |none=>rw[hm] at g3;cases g3
    | some p =>
     obtain⟨c',Lp⟩:=p
     rw[hm] at g3
     simp only[Option.map_some,Option.some.injEq,Prod.mk.injEq] at g3
     obtain⟨_,rfl⟩:=g3
     obtain⟨x,cs,T,fr,q1,q2,q3,q4,_,q5,q6,q7⟩:=hok.blk n' _ g2
     obtain⟨i,hi⟩:=List.mem_iff_getElem?.1 g1
     obtain⟨b1,b2,Lb,p1,p2,p3,p4,p5⟩:=hbj i n' hi
     rw[g2] at p1
     obtain rfl:=Option.some.inj p1
     simp only[gL,hm,Option.map_some,Option.some.injEq,Prod.mk.injEq] at p2
     obtain⟨_,rfl⟩:=p2
     exact aCM hok hS1 (κ':=κ0) hE hm (λm hm=>hLS m (hL2 m (p5 m hm))) (λj hj=>(q7 j hj).2) n g4
 have hBS:∀n b,n∈B->h n=some b->b.fz=false->∀x,ρ n=some x->¬S1 x:=by
  rintro n b hn hb hz x hx (hs|⟨m,hm,hmx⟩)
  .have:=hok.blk n b hb
   cases b with
   | var c z =>
    obtain⟨y,_,_,_,g1,_,_,g2,_⟩:=this
    obtain rfl:=Option.some.inj (hx.symm.trans g1)
    exact g2 hz hs
   | arr k l z =>
    obtain⟨_,⟨g1,_⟩|⟨y,_,_,_,g1,_,_,g2,_⟩⟩:=this
    .rw[hx] at g1;cases g1
    .obtain rfl:=Option.some.inj (hx.symm.trans g1)
     exact g2 hz hs
  all_goals grind [HOK]
 have hHn:∀j b',Hn (hout.map some) (.b j)=some b'->∃n b Lj,B[j]? = some n∧h n=some b∧gL h B b=some (b',Lj)∧(∀m,m∈Lj->m∈L2)∧b'.fz=false:=by
  intro j b' hb'
  have hj:j<B.length:=by
   grind [Hn]
  obtain⟨b,b2,Lj,g1,g2,g3,g4,g5⟩:=hbj j B[j] (by simp[hj])
  have:b'=b2:=by
   grind [Hn]
  subst this
  exact⟨B[j],b,Lj,by simp[hj],g1,g2,g5,g4⟩
 have hok1:HOK S1 w ρ0 κ0 (Hn (hout.map some)):=by
  refine⟨λm b' hb'=>?_,λm m' x h1 h2 h3 h4=>?_,?_,hok.env.mono hS1 λ_ _=>rfl⟩
  .cases m with
   |t=>simp[Hn] at hb'
   | b j =>
    obtain⟨n,b,Lj,g0,g1,g2,g5,g4⟩:=hHn j b' hb'
    obtain⟨e1,e2,_⟩:=hE j n g0
    have hb:=hok.blk n b g1
    have hnS:=hBS n b (List.mem_of_getElem? g0) g1
    cases b with
    | var c z =>
     simp only[gL] at g2
     cases hm:bO (conv h 8 B false) c with
     |none=>rw[hm] at g2;cases g2
     | some p =>
      obtain⟨c',Lp⟩:=p
      rw[hm] at g2
      simp only[Option.map_some,Option.some.injEq,Prod.mk.injEq] at g2
      obtain⟨rfl,rfl⟩:=g2
      obtain⟨x,cs,T,fr,q1,q2,q3,q4,q4',q5,q6,q7⟩:=hb
      obtain⟨l1,l2⟩:=fD hm
      refine⟨x,cs,T,fr,by rw[e1];exact q1,q2,q3,λhz=>hnS hz x q1,λhz=>.inl (q4' hz),by rw[e2];exact q5,by omega,λi hi=>⟨(q7 i (by omega)).1,?_⟩⟩
      obtain⟨Li,l3,l4⟩:=l2 i (by omega)
      exact(spec false _ _ _ _ l3 (λm hm=>hLS m (hL2 m (g5 m (l4 m hm)))) (q7 i (by omega)).2).1 rfl
    | arr k l z =>
     simp only[gL,Option.some.injEq,Prod.mk.injEq] at g2
     obtain⟨rfl,rfl⟩:=g2
     obtain⟨q0,⟨q1,q2⟩|⟨x,cs,T,fr,q1,q2,q3,q4,q4',q5,q6,q7⟩⟩:=hb
     .exact⟨q0,.inl ⟨by rw[e1];exact q1,q2⟩⟩
     .exact⟨q0,.inr ⟨x,cs,T,fr,by rw[e1];exact q1,q2,q3,λhz=>hnS hz x q1,λhz=>.inl (q4' hz),by rw[e2];exact q5,q6,λi j hi hj=>⟨(q7 i j hi hj).1,(q7 i j hi hj).2.mono hS1 λ_ _=>rfl⟩⟩⟩
  .cases m with
   |t=>simp[Hn] at h1
   | b j =>
    cases m' with
    |t=>simp[Hn] at h2
    | b j' =>
     obtain⟨b1,hb1⟩:=Option.isSome_iff_exists.1 h1
     obtain⟨b2,hb2⟩:=Option.isSome_iff_exists.1 h2
     obtain⟨n,b,_,g0,g1,_⟩:=hHn j b1 hb1
     obtain⟨n',b',_,g0',g1',_⟩:=hHn j' b2 hb2
     rw[(hE j n g0).1] at h3
     rw[(hE j' n' g0').1] at h4
     obtain rfl:=hok.inj n n' x (by simp[g1]) (by simp[g1']) h3 h4
     congr 1
     have e1:=nU hnd g0
     have e2:=nU hnd g0'
     rw[e1] at e2;exact Option.some.inj e2
  .rintro y (hy|⟨n,hn,hy⟩)
   .exact hok.dom y hy
   .exact hok.lt (hlent n hn).2 hy
 refine⟨S1,ρ0,κ0,hok1,(spec false _ _ _ _ hc (λm hm=>hLS m (hL1 m hm)) hx).1 rfl,hS1,?_,?_,hE⟩
 .grind
 .intro j z hj hz
  obtain⟨b',hb'⟩:=Option.isSome_iff_exists.1 hj
  obtain⟨n,b,_,g0,g1,_⟩:=hHn j b' hb'
  all_goals grind
/-! ## what a function hands back -/
def aBl (P:Program) (σ:St) (K:AV->Prop):ResultVar->Prop
 |.tmp t=>K (look σ.s t)
 | .cell A T=>match pV P T with
  |some (g,k)=>rd (evO (look σ.s)) (aA σ.h) K (.load g k (.tmp A))
  |none=>False
def tL (P:Program) (σ:St) (K:List AV->Prop):List ResultVar->Prop
 | []=>K []
 |r::rs=>aBl P σ (λx=>tL P σ (λxs=>K (x::xs)) rs) r
def tT:List AV->AV
 | [x]=>x
 |l=>.tup l
def tK (P:Program) (rs:List ResultVar) (B:List Name) (r:AV) (hout:List Blk) (σ:St):Prop:=
 tL P σ (λxs=>∃L1 L2,conv (aA σ.h) 8 B false (tT xs)=some (r,L1)∧oD (aA σ.h) B B=some (hout,L2)) rs
def aBm (tmps:Array Value):ResultVar->Sem Value
 |.tmp t=>pure (tmps.getD t undef)
 |.cell A T=>do loadVar T (←asAddr (tmps.getD A undef))
theorem aDx {σ:St}{K:AV->Prop} (hok:OK C σ.f a w S ρ κ) {r:ResultVar} (h:aBl P σ K r) :
  ∃x v,K x∧RV S w ρ κ σ.f.h x v∧(aBm a.tmps r).run P w=.ok v w:=by
 cases r with
 |tmp t=>exact⟨_,_,h,hok.slots t,by simp[aBm]⟩
 | cell A T =>
  simp only[aBl] at h
  split at h
  .rename_i g k hl
   obtain⟨x,v,hK,hrun,hx⟩:=aBW hok hl h
   refine⟨x,v,hK,hx,?_⟩
   simp only[aBm]
   have e:a.eval (.tmp A)=a.tmps.getD A undef:=rfl
   rw[e] at hrun
   simp only[Instr.loadAt,Sem.run_bind] at hrun
   simp only[rd] at h
   have hev:=hok.ev (.tmp A)
   rw[e] at hev
   generalize a.tmps.getD A undef=va at hev hrun⊢
   split at h
   .rename_i c hc
    rw[show evO σ.f.s (.tmp A)=_ from hc] at hev
    cases qA hev with
    | ro _ b off xs _ _ _ _ =>
     grind [Sem.run_bind,asAddr,Instr.sureAddr,Sem.run_pure]
   .rename_i n e' c hc
    rw[show evO σ.f.s (.tmp A)=_ from hc] at hev
    split at h
    .rename_i b hb
     obtain⟨y,hy,hva⟩:=bZ hev b hb
     all_goals grind [Sem.run_bind,asAddr,Instr.sureAddr,Sem.run_pure]
    .exact h.elim
   .exact h.elim
  .exact h.elim
theorem aAE {σ:St} (hok:OK C σ.f a w S ρ κ):∀{rs:List ResultVar}{K:List AV->Prop},tL P σ K rs->
  ∃ xs vs,K xs∧vs.length=xs.length∧(∀j,j<xs.length->RV S w ρ κ σ.f.h (xs.getD j .junk) (vs.getD j undef))∧
   (rs.mapM (aBm a.tmps)).run P w=.ok vs w
 | [],K,h=>⟨[],[],h,rfl,by simp,by simp⟩
 | r::rs,K,h=>by
  obtain⟨x,v,h1,h2,h3⟩:=aDx hok h
  obtain⟨xs,vs,h4,h5,h6,h7⟩:=aAE hok h1
  refine⟨x::xs,v::vs,h4,by simp[h5],λj hj=>?_,?_⟩
  all_goals grind [Sem.run_bind,Result.andThen_ok,Sem.run_pure,AV,tL]
theorem wH {σ:St} (hok:OK C σ.f a w S ρ κ) {fn:Func}{K:AV->Prop} (h:tL P σ (λxs=>K (tT xs)) fn.results.toList) :
  ∃x v,K x∧RV S w ρ κ σ.f.h x v∧(results fn a.tmps).run P w=.ok v w:=by
 obtain⟨xs,vs,h1,h2,h3,h4⟩:=aAE hok h
 have hr:(results fn a.tmps).run P w=.ok (if h:vs.toArray.size=1 then vs.toArray[0] else .tuple vs.toArray) w:=by
  have hm:fn.results.mapM (aBm a.tmps)=(do pure (←fn.results.toList.mapM (aBm a.tmps)).toArray):=by
   rw[←Array.toArray_toList (xs:=fn.results),List.mapM_toArray]
   rfl
  change (do let vs ←fn.results.mapM (aBm a.tmps);pure (if h:vs.size=1 then vs[0] else .tuple vs):Sem Value).run P w=_
  rw[hm]
  simp only[Sem.run_bind,h4,Result.andThen_ok,Sem.run_pure]
 refine⟨_,_,h1,?_,hr⟩
 match xs,vs,h2,h3 with
 | [x],[v],_,h3=>simpa[tT] using h3 0 (by simp)
 | [],[],_,h3=>exact .tup _ _ rfl (by simp)
 |x::x'::r,v::v'::r',h2,h3=>exact .tup _ _ (by simpa using h2.symm) λj hj=>by simpa using h3 j hj
def ini:Nat->List AV->List (Nat×AV)
 |_,[]=>[]
 |i,x::r=>(i,x)::ini (i+1) r
theorem tY:∀(l:List AV) (i t:Nat),look (ini i l) t=if i<=t∧t<i+l.length then l.getD (t-i) .junk else .junk
 | [],i,t=>by simp[ini,look]
 | x::r,i,t=>by
  simp only[ini,look,tY r (i+1) t,List.length_cons]
  all_goals grind
def rX:Nat->List Blk->List (Name×Blk)
 |_,[]=>[]
 |i,b::r=>(.b i,b)::rX (i+1) r
theorem uC (d j:Nat):∀(l:List Blk) (i:Nat),aA (rX i l) (.t d j)=none
 | [],i=>rfl
 |b::r,i=>by simp[rX,aA,uC d j r]
theorem uD (j:Nat):∀(l:List Blk) (i:Nat),aA (rX i l) (.b j)=if i<=j then l[j-i]? else none
 | [],i=>by simp[rX,aA]
 | b::r,i=>by
  simp only[rX,aA,Name.b.injEq,uD j r]
  all_goals grind
theorem gK (l:List Blk):aA (rX 0 l)=Hn (l.map some):=by
 funext n
 cases n with
 |t d j=>rw[uC];rfl
 | b j =>
  grind [uD,Hn]
theorem Fn.intro {drawn:Nat->Array Oper->Option (List Nat)}{f:FuncId}{fn:Func} (hdr:iO P drawn) {body:Code}{ac:aD}{hin:List Blk}{args:List AV}{r:AV}{hout:List Blk} (B:List Name)
  (hf:P.funcs[f]? = some fn) (hb:fn.body=some body) (hname:fn.name≠"runtime.NumGoroutine") (hc:aU P fn.ntmps drawn body=some ac.bare) (hna:args.length<=fn.ntmps) (hnd:B.Nodup)
  (hB:∀j,j<hin.length->B[j]? = some (.b j))
  (hw:∀C:Ctx,C.nt=fn.ntmps->wpc P C drawn ac (tK P fn.results.toList B r hout) (λe σ=>match e with|.ret=>tK P fn.results.toList B r hout σ|.exit _=>False) ⟨ini 0 args,rX 0 hin⟩) :
  Fn P f hin args r (hout.map some):=by
 refine⟨⟨fn,body,hf,hb,hname⟩,?_⟩
 intro S w ρ κ vs hok _ hvs hargs
 let C:Ctx:={nt:=fn.ntmps,w0:=w,S0:=S,Mut:=nD ρ hin,ρ0:=λj=>ρ (.b j),κ0:=λj=>κ (.b j),h0:=λj=>hin[j]?}
 have hC:=hw C rfl
 refine calls_of_wp hf hb ?_
 have hret:∀a w',bK C (tK P fn.results.toList B r hout) a w'->a.defers=[]∧∃v,(results fn a.tmps).run P w'=.ok v w'∧
   ∃v2 S' ρ' κ',Ending.returned v=.returned v2∧Post S w ρ κ hin S' w' ρ' κ' (hout.map some)∧RV S' w' ρ' κ' (Hn (hout.map some)) r v2:=by
  rintro a w' ⟨σ,S1,ρ1,κ1,hK,hok1⟩
  refine⟨hok1.defers,?_⟩
  obtain⟨x,v,⟨L1,L2,h1,h2⟩,h3,h4⟩:=wH hok1 (K:=λx=>∃L1 L2,conv (aA σ.h) 8 B false x=some (r,L1)∧oD (aA σ.h) B B=some (hout,L2)) hK
  refine⟨v,h4,v,?_⟩
  obtain⟨S',ρ',κ',g1,g2,g3,g4,g5,g6⟩:=aA1 hok1.hok hnd h3 h1 h2
  refine⟨S',ρ',κ',rfl,⟨g1,hok1.size,λb hb hm=>hok1.old b hb hm,λb hb=>g3 b (hok1.S0 b hb),λb hb=>?_,λj z hj hz=>?_,hok1.out,λj b' hj hj'=>?_⟩,g2⟩
  .rcases g4 b hb with h|⟨n,hn,h⟩
   .exact hok1.Snew b h
   .exact .inr (hok1.mine n b hn h)
  .obtain⟨n,hn,h⟩:=g5 j z hj hz
   exact hok1.mine n z hn h
  .obtain⟨e1,e2,e3⟩:=g6 j (.b j) (hB j hj)
   obtain⟨b,h5,h6⟩:=e3 b' hj'
   obtain⟨e4,e5,b0,h7,h8⟩:=hok1.keep j b h5
   all_goals grind [Blk.same_trans]
 refine uK hdr ac _ _ _ hC body _ _ w S ρ κ hc (λa w' hg=>hret a w' hg) (λi a w' ⟨_,_,_,_,h,_⟩=>h.elim) (λa w' hg=>hret a w' hg) ?_
 have hmem:∀n,((Hn (hin.map some)) n).isSome->∃j,j<hin.length∧n=.b j:=by
  grind [Hn,Name]
 refine⟨?_,rfl,λt=>?_,by simp only[St.f,gK];exact hok,Nat.le_refl _,λ_ _ _=>rfl,λn x h1 h2=>?_,λ_ h=>h,λb hb=>.inl hb,⟨rfl,rfl⟩,λj b hb=>?_⟩
 .simp only[C,Array.size_append,Array.size_replicate];omega
 .simp only[St.f,tY,Nat.zero_le,true_and,Nat.zero_add,Nat.sub_zero,gK]
  split
  .rename_i ht
   have e:(vs++Array.replicate (fn.ntmps-vs.size) undef).getD t undef=vs.getD t undef:=by
    have h1:t<vs.size:=by omega
    simp[Array.getElem?_append,h1]
   rw[e]
   exact hargs t ht
  .exact .junk _
 .simp only[St.f,gK] at h1
  obtain⟨j,hj,rfl⟩:=hmem n h1
  exact .inr ⟨j,hj,h2⟩
 .simp only[St.f,gK] at hb
  refine⟨rfl,rfl,b,?_,b.same_refl⟩
  all_goals grind [Hn]
theorem iO.none:iO P (λ_ _=>.none):=by
 grind [iO]
end
section
variable [Envs]
def oO:AOp->Bool
 |.box _|.alloc _|.bslice .. | .mk .. | .call .. | .store .. | .append .. | .appendC .. | .bsliceC .. | .clr ..=>false
 |_=>true
end
section
variable [Envs]
def aI:AOp->List Operand
 |.mv x=>[x]
 |.pick c a b=>[c,a,b]
 |.load _ _ a=>[a]
 |.fieldAddr _ x=>[x]
 |.loadV _ _ a=>[a]
 |.fieldV _ x=>[x]
 |.field _ _ _ x=>[x]
 |.idxSl _ x i=>[x,i]
 |.idxArr _ _ x i=>[x,i]
 |.idxAgg _ _ _ x i=>[x,i]
 |.idxStr x i=>[x,i]
 |.bin _ x y=>[x,y]
 |.binS _ x y=>[x,y]
 |.binB _ x y=>[x,y]
 |.un _ x=>[x]
 |.conv _ x=>[x]
 |.b2s x=>[x]
 |.eqA _ _ x y=>[x,y]
 |.idxB x y=>[x,y]
 |.len x=>[x]
 |.lenS x=>[x]
 |.lenC _=>[]
 |.slc _ x a b=>x::(a.toList++b.toList)
 |.sstr x a b=>x::(a.toList++b.toList)
 |.nilc x=>[x]
 |.extract x _=>[x]
 |.build _ ps=>ps.map λp=>p.2.2
 |.mkfn _ cs=>cs
 |.mm _ x y=>[x,y]
 |.box x=>[x]
 |.alloc _=>[]
 |.bslice _ _ _ ps=>ps.map λp=>p.2
 |.mk _ _ _ n=>[n]
 |.call f a _=>f::a
 |.store _ a x=>[a,x]
 |.append _ _ a x=>[a,x]
 |.appendC _ _ a x=>[a,x]
 |.bsliceC _ _ _ ps=>ps.map λp=>p.2
 |.clr _ _ x=>[x]
def Agr (N:Name->Prop) (h h':Name->Option Blk):Prop:=∀n,¬N n->(h n).map frz=(h' n).map frz
def Off (N:Name->Prop) (x:AV):Prop:=∀n,N n->x.has n=false
def bU (N:Name->Prop) (c:List AV):Prop:=∀n,N n->iL n c=false
def yL (N:Name->Prop) (b:Blk):Prop:=∀n,N n->b.has n=false
variable {N:Name->Prop}{h h':Name->Option Blk}{ev ev':Operand->AV}
theorem Agr.symm (ha:Agr N h h'):Agr N h' h:=λn hn=>(ha n hn).symm
theorem Agr.none (ha:Agr N h h') {n:Name} (hn:¬N n) (hh:h n=none):h' n=none:=by
 have:=ha n hn
 rw[hh] at this
 cases hx:h' n with
 |none=>rfl
 |some b=>rw[hx] at this;simp at this
theorem Agr.some (ha:Agr N h h') {n:Name} (hn:¬N n) {b:Blk} (hh:h n=some b):∃b',h' n=some b'∧frz b'=frz b:=by
 have:=ha n hn
 rw[hh] at this
 cases hx:h' n with
 |none=>rw[hx] at this;simp at this
 |some b'=>rw[hx] at this;simp at this;exact⟨b',rfl,this.symm⟩
theorem aFg {b b':Blk} (hb:frz b'=frz b) (e:Nat):b'.row e=b.row e:=by
 cases b<;>cases b'<;>simp[frz] at hb<;>simp[Blk.row,hb]
 cases e<;>simp[Blk.row,hb]
theorem rC {b:Blk}{k:Nat}{l:List (List AV)}{z:Bool} (hb:frz b=frz (.arr k l z)):∃z',b=.arr k l z':=by
 grind [frz,Blk]
theorem wL {b:Blk}{c:List AV}{z:Bool} (hb:frz b=frz (.var c z)):∃z',b=.var c z':=by
 grind [frz,Blk]
theorem aFh {b b':Blk} (hb:frz b'=frz b) (n:Name):b'.has n=b.has n:=by
 grind [frz,Blk.has,Blk]
theorem Off.ptr {n:Name}{e c:Nat} (ho:Off N (.ptr n e c)):¬N n:=λhn=>by simpa[AV.has] using ho n hn
theorem Off.loc {n:Name}{e c:Nat} (ho:Off N (.loc n e c)):¬N n:=λhn=>by simpa[AV.has] using ho n hn
theorem Off.agg {c:List AV} (ho:Off N (.agg c)):bU N c:=λn hn=>by simpa[AV.has] using ho n hn
theorem Off.tup {c:List AV} (ho:Off N (.tup c)):bU N c:=λn hn=>by simpa[AV.has] using ho n hn
theorem Off.fn {f:FuncId}{c:List AV} (ho:Off N (.fn f c)):bU N c:=λn hn=>by simpa[AV.has] using ho n hn
theorem bU.cons {x:AV}{c:List AV} (ho:bU N (x::c)):Off N x∧bU N c:=
 ⟨λn hn=>by have:=ho n hn;simp[iL] at this;exact this.1,λn hn=>by have:=ho n hn;simp[iL] at this;exact this.2⟩
theorem bU.mk_cons {x:AV}{c:List AV} (hx:Off N x) (hc:bU N c):bU N (x::c):=λn hn=>by simp[iL,hx n hn,hc n hn]
theorem bU.nil:bU N []:=λ_ _=>rfl
theorem bU.mem:∀{c:List AV},bU N c->∀x,x∈c->Off N x
 | [],_,x,hx=>by cases hx
 | y::r,ho,x,hx=>by
  rcases List.mem_cons.1 hx with rfl|hx
  .exact ho.cons.1
  .exact bU.mem ho.cons.2 x hx
theorem bU.of_mem:∀{c:List AV},(∀x,x∈c->Off N x)->bU N c
 | [],_=>bU.nil
 |_::_,h=>bU.mk_cons (h _ (by simp)) (bU.of_mem λx hx=>h x (by simp[hx]))
theorem bU.getD {c:List AV} (ho:bU N c) (j:Nat):Off N (c.getD j .junk):=λn hn=>lT (ho n hn)
theorem bU.drop {c:List AV} (ho:bU N c) (j:Nat):bU N (c.drop j):=bU.of_mem λx hx=>ho.mem x (List.mem_of_mem_drop hx)
theorem bU.take {c:List AV} (ho:bU N c) (j:Nat):bU N (c.take j):=bU.of_mem λx hx=>ho.mem x (List.mem_of_mem_take hx)
theorem Off.v (x:Value):Off N (.v x):=λ_ _=>rfl
theorem Off.junk:Off N .junk:=λ_ _=>rfl
theorem Off.sl (k:Nat) (l:List (List AV)):Off N (.sl k l):=λ_ _=>rfl
theorem Off.ro (c:List AV):Off N (.ro c):=λ_ _=>rfl
theorem Off.mk_agg {c:List AV} (ho:bU N c):Off N (.agg c):=λn hn=>by simpa[AV.has] using ho n hn
theorem Off.mk_fn {f:FuncId}{c:List AV} (ho:bU N c):Off N (.fn f c):=λn hn=>by simpa[AV.has] using ho n hn
theorem Off.mk_tup {c:List AV} (ho:bU N c):Off N (.tup c):=λn hn=>by simpa[AV.has] using ho n hn
theorem Off.mk_ptr {n:Name}{e c:Nat} (hn:¬N n):Off N (.ptr n e c):=λm hm=>by
 grind [AV.has]
theorem Off.mk_loc {n:Name}{e c:Nat} (hn:¬N n):Off N (.loc n e c):=λm hm=>by
 grind [AV.has]
theorem xB (ha:Agr N h h') {x:AV} (ho:Off N x):mH h x=mH h' x:=by
 cases x<;>try rfl
 case loc n off len =>
  simp only[mH]
  cases hx:h n with
  |none=>rw[ha.none ho.loc hx]
  | some b =>
   obtain⟨b',hb',e⟩:=ha.some ho.loc hx
   rw[hb']
   cases b<;>cases b'<;>simp[frz] at e<;>rfl
 case ptr n e c =>
  simp only[mH]
  cases hx:h n with
  |none=>rw[ha.none ho.ptr hx]
  | some b =>
   obtain⟨b',hb',e⟩:=ha.some ho.ptr hx
   rw[hb'];rfl
theorem vG {p q:AV->Bool}:∀{c:List AV},(∀x,x∈c->p x=q x)->c.all p=c.all q
 | [],_=>rfl
 |x::r,h=>by simp only[List.all_cons,h x (by simp),vG (c:=r) λy hy=>h y (by simp[hy])]
theorem x8 (ha:Agr N h h') {x:AV} (ho:Off N x):gM h x=gM h' x:=by
 cases x
 case agg c =>
  simp only[gM]
  rw[vG (q:=mH h') λx hx=>xB ha (ho.agg.mem x hx)]
 all_goals simp only[gM,xB ha ho]
theorem aBC {x:AV} (ho:Off N x) {c:List AV} (hc:gM h x=some c):bU N c:=by
 cases x
 case agg c' =>
  simp only[gM] at hc
  split at hc
  .obtain rfl:=Option.some.inj hc;exact ho.agg
  .cases hc
 all_goals grind [gM,bU.mk_cons,bU.nil]
theorem rW (ha:Agr N h h'):∀{ps:List (Nat×Nat×Operand)}{cs:List AV}{K:List AV->Prop},(∀p,p∈ps->ev p.2.2=ev' p.2.2∧Off N (ev p.2.2))->layAll ev h cs ps K->layAll ev' h' cs ps K
 | [],_,_,_,hk=>hk
 | (o,n,x)::r,cs,K,he,hk=>by
  obtain⟨e1,e2⟩:=he (o,n,x) (by simp)
  simp only at e1 e2
  simp only[layAll] at hk⊢
  rw[←e1,←x8 ha e2]
  split at hk
  .exact⟨hk.1,rW ha (λp hp=>he p (by simp[hp])) hk.2⟩
  .exact hk
theorem pW:∀{ps:List (Nat×Nat×Operand)}{cs:List AV}{K K':List AV->Prop},(∀c,K c->K' c)->layAll ev h cs ps K->layAll ev h cs ps K'
 | [],_,_,_,hh,hk=>hh _ hk
 | (o,n,x)::r,cs,K,K',hh,hk=>by
  simp only[layAll] at hk⊢
  split at hk
  .exact⟨hk.1,pW hh hk.2⟩
  .exact hk
theorem oM:∀{ps:List (Nat×Nat×Operand)}{cs:List AV}{K:List AV->Prop},layAll ev h cs ps K->∃c,K c∧layAll ev h cs ps (λc'=>c'=c)
 | [],cs,_,hk=>⟨cs,hk,rfl⟩
 | (o,n,x)::r,cs,K,hk=>by
  simp only[layAll] at hk⊢
  split at hk
  .obtain⟨c,h1,h2⟩:=oM hk.2
   exact⟨c,h1,hk.1,h2⟩
  .exact hk.elim
end
end Go.Vs
