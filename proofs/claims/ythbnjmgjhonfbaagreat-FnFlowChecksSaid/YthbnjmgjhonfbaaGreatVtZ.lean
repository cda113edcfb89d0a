/- A row that is written while its walk does not know it. -/
import Derived.Test.YthbnjmgjhonfbaaGreatVtT
set_option linter.all false
set_option maxHeartbeats 8000000
namespace Go.Vs
section
variable [Envs]
variable {P:Program}{C:Ctx}{a:Act}{w:World}{S:Nat→Prop}{ρ:Name→Option Nat}{κ:Name→Nat}
structure Later (C C':Ctx):Prop where
 nt:C'.nt=C.nt
 size:C.w0.heap.size≤C'.w0.heap.size
 old:∀b,b<C.w0.heap.size→¬C.Mut b→C'.w0.heap[b]? = C.w0.heap[b]?
 wr:∀b,C'.Mut b→C.w0.heap.size≤b∨C.Mut b
 s0:∀b,C.S0 b→C'.S0 b
 new:∀b,C'.S0 b→C.S0 b∨C.w0.heap.size≤b∨C.Mut b
 out:C'.w0.os=C.w0.os∧C'.w0.output=C.w0.output
 base:C'.ρ0=C.ρ0∧C'.κ0=C.κ0∧C'.h0=C.h0
theorem OK.back {C':Ctx} (hl:Later C C') {σ:FSt} (h:OK C' σ a w S ρ κ):OK C σ a w S ρ κ where
 nt:=h.nt.trans hl.nt
 defers:=h.defers
 slots:=h.slots
 hok:=h.hok
 size:=Nat.le_trans hl.size h.size
 old b hb hm:=by
  rw[←hl.old b hb hm];refine h.old b (Nat.lt_of_lt_of_le hb hl.size) fun h'=>?_;rcases hl.wr b h' with h''|h''
  ·omega
  ·exact hm h''
 mine n x h1 h2:=by
  rcases h.mine n x h1 h2 with h'|h'
  ·exact .inl (Nat.le_trans hl.size h')
  ·exact hl.wr x h'
 S0 b hb:=h.S0 b (hl.s0 b hb)
 Snew b hb:=by
  rcases h.Snew b hb with h'|h'|h'
  ·exact hl.new b h'
  ·exact .inr (.inl (Nat.le_trans hl.size h'))
  ·exact .inr (hl.wr b h')
 out:=⟨h.out.1.trans hl.out.1,h.out.2.trans hl.out.2⟩
 keep j b hb:=by rw[←hl.base.1,←hl.base.2.1,←hl.base.2.2];exact h.keep j b hb
theorem Later.trans {C1 C2 C3:Ctx} (h:Later C1 C2) (h':Later C2 C3):Later C1 C3 where
 nt:=h'.nt.trans h.nt
 size:=Nat.le_trans h.size h'.size
 old b hb hm:=by
  rw[←h.old b hb hm];refine h'.old b (Nat.lt_of_lt_of_le hb h.size) fun hx=>?_;rcases h.wr b hx with hy|hy
  ·omega
  ·exact hm hy
 wr b hb:=by
  rcases h'.wr b hb with hx|hx
  ·exact .inl (Nat.le_trans h.size hx)
  ·exact h.wr b hx
 s0 b hb:=h'.s0 b (h.s0 b hb)
 new b hb:=by
  rcases h'.new b hb with hx|hx|hx
  ·exact h.new b hx
  ·exact .inr (.inl (Nat.le_trans h.size hx))
  ·exact .inr (h.wr b hx)
 out:=⟨h'.out.1.trans h.out.1,h'.out.2.trans h.out.2⟩
 base:=⟨h'.base.1.trans h.base.1,h'.base.2.1.trans h.base.2.1,h'.base.2.2.trans h.base.2.2⟩
end
section
variable [Envs]
variable {P:Program}{C:Ctx}{a:Act}{w:World}{S:Nat→Prop}{ρ:Name→Option Nat}{κ:Name→Nat}
theorem yV {ops:Array Oper}{Q:Exit→Act→World→Prop}{K:St→Prop}{e m:Nat} (hK:∀(σ:St) (a:Act) (w:World) (S:Nat→Prop) (ρ:Name→Option Nat) (κ:Name→Nat),K σ→OK C σ.f a w S ρ κ→wpOps P ops Q (List.range' e m) a w) :
  ∀(aops:List aJ) (k:Nat),k+aops.length=e→(∀j ao,aops[j]? = some ao→∃o,ops[k+j]? = some o∧r9 P C.nt ops o=some ao.bare)→
  ∀(σ:St) (a:Act) (w:World) (S:Nat→Prop) (ρ:Name→Option Nat) (κ:Name→Nat),vc P K aops σ→OK C σ.f a w S ρ κ→wpOps P ops Q (List.range' k (aops.length+m)) a w
 | [],k,hk,_,σ,a,w,S,ρ,κ,hv,hok=>by
  simp only[List.length_nil,Nat.add_zero,Nat.zero_add] at hk⊢;subst hk;exact hK σ a w S ρ κ hv hok
 | ao::r,k,hk,hs,σ,a,w,S,ρ,κ,hv,hok=>by
  obtain⟨o,ho,hc⟩:=hs 0 ao (by simp);simp only[Nat.add_zero] at ho;obtain⟨h1,h2,h3,h4⟩:=lY hc;rw[show(ao::r).length+m=(r.length+m)+1 by simp only[List.length_cons];omega,List.range'_succ,wpOps_cons]
  have ih:=yV hK r (k+1) (by simp only[List.length_cons] at hk;omega) (fun j ao' hj=>by
    obtain⟨o',g1,g2⟩:=hs (j+1) ao' (by simpa using hj);exact⟨o',by rw[show k+1+j=k+(j+1) by omega];exact g1,g2⟩)
  have go:bK P ao.dst σ (vc P K r) ao.op→o.wp P a w (wpOps P ops Q (List.range' (k+1) (r.length+m))) Q:=fun hst =>
   Oper.wp_mono (fun a' w' ⟨σ',S',ρ',κ',hK,hok'⟩=>ih σ' a' w' S' ρ' κ' hK hok') (uY (P:=P) h1 hok h3 (by rw[h2];exact hst))
  unfold wpOp;rw[ho];simp only[vc] at hv;rcases h4 with⟨g1,g2⟩|⟨j,want,t,g1,g2,g3⟩
  ·rw[g2] at hv;have:Region.wanted o (yielded ops a.tmps)=true:=by simp[Region.wanted,g1]
   simp only[this,if_true];exact .inl (go hv)
  ·rw[g2] at hv;simp only at hv;split at hv
   ·rename_i b hb;have hw:=xV hok g1 g3 hb;simp only[hw];by_cases hbw:b=want
    ·simp only[hbw,beq_self_eq_true,if_true];exact .inl (go ((kD.1 hv).1 hbw))
    ·have:(b==want)=false:=by simpa using hbw
     simp only[this,Bool.false_eq_true,if_false];have hn:b = !want:=by cases b<;>cases want<;>simp_all
     refine ih _ _ _ S ρ κ ((kD.1 hv).2 hn) ?_;have:=hok.put (x:=.v undef) (v:=undef) (.clo (.v _)) h3;rw[h2] at this⊢;simpa[St.f,kK,undef] using this
   ·rename_i cs hb;have hw:=xU hok g1 g3 hb;simp only[hw,Bool.false_eq_true,if_false];refine ih _ _ _ S ρ κ hv ?_;have:=hok.put (x:=.v undef) (v:=undef) (.clo (.v _)) h3;rw[h2] at this⊢;simpa[St.f,kK,undef] using this
   ·exact hv.elim
end
section
variable [Envs]
variable {P:Program}{C:Ctx}{a:Act}{w:World}{S:Nat→Prop}{ρ:Name→Option Nat}{κ:Name→Nat}{nt:Nat}{dr:Nat→Array Oper→Option (List Nat)}{Q:Exit→Act→World→Prop}
def zB (nt:Nat) (dr:Nat→Array Oper→Option (List Nat)):Code→Bool
 |.region _ ops draw=>!draw||(match dr nt ops with|some []=>false|_=>true)
 |.seq x y=>zB nt dr x&&zB nt dr y
 |.cond _ x y=>zB nt dr x&&zB nt dr y
 |.block _ x=>zB nt dr x
 |.loop x=>zB nt dr x
 |_=>true
def At (P:Program) (nt:Nat) (dr:Nat→Array Oper→Option (List Nat)) (ac:aD) (Q:Exit→Act→World→Prop) (a:Act) (w:World):Prop:=
 ∀c:Code,bU P nt dr c=some ac.bare→zB nt dr c=true→c.wp P Q a w
theorem At.mono {ac:aD}{Q':Exit→Act→World→Prop} (h:At P nt dr ac Q a w) (hq:∀e a w,Q e a w→Q' e a w):At P nt dr ac Q' a w:=
 fun c hc hz=>Code.wp_mono hq (h c hc hz)
theorem At.seq {x y:aD} (h:At P nt dr x (Exit.then (At P nt dr y Q) Q) a w):At P nt dr (.seq x y) Q a w:=by
 intro c hc hzc;cases c
 case seq cx cy =>
  simp only[bU,aD.bare] at hc;split at hc
  ·rename_i x' y' h1 h2;simp only[Option.some.injEq,aD.seq.injEq] at hc;obtain⟨rfl,rfl⟩:=hc;simp only[zB,Bool.and_eq_true] at hzc;refine wp_seq (Code.wp_mono (fun e a w hq=>?_) (h cx h1 hzc.1));cases e<;>first|exact hq cy h2 hzc.2|exact hq
  ·cases hc
 all_goals(simp only[bU,aD.bare] at hc;first|(cases hc;done)|(split at hc<;>simp at hc)|(simp at hc))
theorem At.block {x:aD}{id:Nat} (h:At P nt dr x (Exit.inBlock id Q) a w):At P nt dr (.block id x) Q a w:=by
 intro c hc hzc;cases c
 case block cid cx =>
  simp only[bU,aD.bare] at hc;cases h1:bU P nt dr cx with
  |none=>rw[h1] at hc;cases hc
  | some x' =>
   rw[h1] at hc;simp only[Option.map_some,Option.some.injEq,aD.block.injEq] at hc;obtain⟨rfl,rfl⟩:=hc;exact wp_block (h cx h1 (by simpa[zB] using hzc))
 all_goals(simp only[bU,aD.bare] at hc;first|(cases hc;done)|(split at hc<;>simp at hc)|(simp at hc))
theorem At.exit {id:Nat} (h:Q (.exit id) a w):At P nt dr (.exit id) Q a w:=by
 intro c hc hzc;cases c
 case exit cid =>
  simp only[bU,aD.bare,Option.some.injEq,aD.exit.injEq] at hc;subst hc;exact wp_exit h
 all_goals(simp only[bU,aD.bare] at hc;first|(cases hc;done)|(split at hc<;>simp at hc)|(simp at hc))
theorem At.skip (h:Q .normal a w):At P nt dr .skip Q a w:=by
 intro c hc hzc;cases c<;>simp[bU,aD.bare] at hc
 case skip=>exact wp_skip h
 all_goals(first|(split at hc<;>simp at hc)|skip)
theorem At.ret (h:Q .ret a w):At P nt dr .ret Q a w:=by
 intro c hc hzc;cases c
 case ret=>exact wp_ret h
 all_goals(simp only[bU,aD.bare] at hc;first|(cases hc;done)|(split at hc<;>simp at hc)|(simp at hc))
theorem At.cond {x y:aD}{co:Operand}{t:Bool} (hb:a.eval co=.bool t) (ht:t=true→At P nt dr x Q a w) (hf:t=false→At P nt dr y Q a w):At P nt dr (.cond co x y) Q a w:=by
 intro c hc hzc;cases c
 case cond co' cx cy =>
  simp only[bU,aD.bare] at hc;split at hc
  ·rename_i x' y' h1 h2;simp only[Option.some.injEq,aD.cond.injEq] at hc;obtain⟨rfl,rfl,rfl⟩:=hc;simp only[zB,Bool.and_eq_true] at hzc;exact wp_cond_split hb (fun h=>ht h cx h1 hzc.1) fun h=>hf h cy h2 hzc.2
  ·cases hc
 all_goals(simp only[bU,aD.bare] at hc;first|(cases hc;done)|(split at hc<;>simp at hc)|(simp at hc))
theorem At.loop {x:aD} (I:Nat→Act→World→Prop) (hr:∀n a w,I n a w→At P nt dr x (Exit.then (fun a w=>∃m,m<n∧I m a w) Q) a w) {n:Nat} (h0:I n a w):At P nt dr (.loop x) Q a w:=by
 intro c hc hzc;cases c
 case loop cx =>
  simp only[bU,aD.bare] at hc;cases h1:bU P nt dr cx with
  |none=>rw[h1] at hc;cases hc
  | some x' =>
   rw[h1] at hc;simp only[Option.map_some,Option.some.injEq,aD.loop.injEq] at hc;subst hc
   classical
   let m:Act→World→Nat:=fun a w=>if h:∃n,I n a w then(least _ h).choose else 0
   refine wp_loop (fun a w=>∃n,I n a w) m ⟨n,h0⟩ ?_;rintro a w hex;have hI:=(least _ hex).choose_spec.1;have hm:m a w=(least _ hex).choose:=by simp only[m,dif_pos hex]
   refine Code.wp_mono (fun e a' w' hq=>?_) (hr _ a w hI cx h1 (by simpa[zB] using hzc));cases e
   case normal =>
    obtain⟨k,hk,hIk⟩:=hq;have hex':∃n,I n a' w':=⟨k,hIk⟩;refine⟨hex',?_⟩
    have:m a' w'≤k:=by
     simp only[m,dif_pos hex'];exact(least _ hex').choose_spec.2 _ hIk
    rw[hm];omega
   all_goals exact hq
 all_goals(simp only[bU,aD.bare] at hc;first|(cases hc;done)|(split at hc<;>simp at hc)|(simp at hc))
theorem At.fw {ac:aD}{N:St→Prop}{E:lL→St→Prop}{σ:St} (hdr:nG P dr) (hok:OK C σ.f a w S ρ κ) (hnt:C.nt=nt) (hv:wpc P C dr ac N E σ)
  (hN:∀a w,dF C N a w→Q .normal a w) (hE:∀i a w,dF C (E (.exit i)) a w→Q (.exit i) a w) (hR:∀a w,dF C (E .ret) a w→Q .ret a w):At P nt dr ac Q a w:=
 fun c hc _=>tC hdr ac N E σ hv c Q a w S ρ κ (by rw[hnt];exact hc) hN hE hR hok
def aMt (P:Program) (nt:Nat) (post:List aJ) (Q:Exit→Act→World→Prop) (a:Act) (w:World):Prop:=
 ∃(C:Ctx) (σ:St) (S:Nat→Prop) (ρ:Name→Option Nat) (κ:Name→Nat) (K:St→Prop),C.nt=nt∧OK C σ.f a w S ρ κ∧vc P K post σ∧∀a w,dF C K a w→Q .normal a w
theorem At.region {pre post:List aJ}{o:aJ}{out:List Nat}{σ:St} (hok:OK C σ.f a w S ρ κ) (hnt:C.nt=nt) (hg:o.guard=none)
  (hv:vc P (fun σ1=>∀(a:Act) (w:World) (S:Nat→Prop) (ρ:Name→Option Nat) (κ:Name→Nat) (op:Oper) (ops:Array Oper),OK C σ1.f a w S ρ κ→r9 P nt ops op=some o.bare→op.wp P a w (aMt P nt post Q) Q) pre σ) :
  At P nt dr (.region (pre++o::post) out []) Q a w:=by
 intro c hc hzc;cases c
 case region id ops draw =>
  simp only[bU,aD.bare] at hc;split at hc
  ·rename_i fl' hdraw;cases ho:aCS P nt ops ops.toList with
   |none=>rw[ho] at hc;cases hc
   | some l =>
    rw[ho] at hc;simp only[Option.map_some,Option.some.injEq,aD.region.injEq,true_and] at hc;obtain⟨hl,hfl⟩:=hc;subst hl;subst hfl;cases draw with
    | true =>
     have hd:dr nt ops=some []:=by simpa using hdraw
     simp[zB,hd] at hzc
    | false =>
     obtain⟨g1,g2⟩:=qN ho
     have hs:∀(j:Nat) (ao:aJ),(pre++o::post)[j]? = some ao→∃op,ops[j]? = some op∧r9 P nt ops op=some ao.bare:=fun j ao hj=>by
      obtain⟨op,q1,q2⟩:=g2 j ao hj;exact⟨op,by simpa using q1,q2⟩
     refine wp_region ?_
     have hlen:ops.size=pre.length+(post.length+1):=by
      have:ops.size=(pre++o::post).length:=by simpa using g1
      rw[this];simp
     rw[List.range_eq_range',hlen];refine yV (C:=C) (K:=_) (e:=pre.length) (fun σ1 a w S ρ κ hK hok1=>?_) pre 0 (by omega) (fun j ao hj=>?_) σ a w S ρ κ hv hok
     ·obtain⟨op,h1,h2⟩:=hs pre.length o (by simp);obtain⟨_,_,_,h4⟩:=lY h2
      have hg2:op.guard=none:=by
       rcases h4 with⟨h,_⟩|⟨j,want,t,_,h,_⟩
       ·exact h
       ·rw[hg] at h;cases h
      rw[List.range'_succ,wpOps_cons];unfold wpOp;rw[h1];have:Region.wanted op (yielded ops a.tmps)=true:=by simp[Region.wanted,hg2]
      simp only[this,if_true];refine .inl (Oper.wp_mono (fun a' w' hr=>?_) (hK a w S ρ κ op ops hok1 h2));obtain⟨C',σ',S',ρ',κ',K',e1,e2,e3,e4⟩:=hr;subst e1
      have:=yV (C:=C') (P:=P) (ops:=ops) (Q:=Q) (K:=K') (e:=pre.length+1+post.length) (m:=0) (fun σ2 a2 w2 S2 ρ2 κ2 hk hok2=>by
        simp only[List.range'_zero];exact e4 a2 w2 ⟨σ2,S2,ρ2,κ2,hk,hok2⟩) post (pre.length+1) rfl (fun j ao hj=>by
        obtain ⟨op',q1,q2⟩:=hs (pre.length+1+j) ao (by
          rw[List.getElem?_append_right (by omega),show pre.length+1+j-pre.length=j+1 by omega];simpa using hj)
        exact⟨op',q1,q2⟩) σ' a' w' S' ρ' κ' e3 e2
      simpa using this
     ·obtain⟨op',q1,q2⟩:=hs j ao (by
        have:j<pre.length:=by
          rcases Nat.lt_or_ge j pre.length with h|h
          · exact h
          · simp[List.getElem?_eq_none h] at hj
        rw[List.getElem?_append_left this];exact hj)
      exact⟨op',by simpa using q1,by rw[hnt];exact q2⟩
  ·cases hc
 all_goals(simp only[bU,aD.bare] at hc;first|(cases hc;done)|(split at hc<;>simp at hc)|(simp at hc))
theorem aJL {f:FuncId}{fn:Func}{body:Code}{ac:aD} (hf:P.funcs[f]? = some fn) (hb:fn.body=some body) (hc:bU P fn.ntmps dr body=some ac.bare) (hz:zB fn.ntmps dr body=true) {args:List AV} (hna:args.length≤fn.ntmps)
  {vs:Array Value} (hS:∀b,S b→b<w.heap.size) (he:Env S w) (hvs:vs.size=args.length) (hargs:∀j,j<args.length→RC S w (args.getD j .junk) (vs.getD j undef)) (M:Nat→Prop) {R:Ending→World→Prop}
  (h : ∀a,OK ⟨fn.ntmps,w,S,M,fun _=>none,fun _=>0,fun _=>none⟩ (⟨ini 0 args,[]⟩:St).f a w S (fun _=>none) (fun _=>0)→
    At P fn.ntmps dr ac (fun e a' w'=>(e=.ret∨e=.normal)∧a'.defers=[]∧∃v,(results fn a'.tmps).run P w'=.ok v w'∧R (.returned v) w') a w):Calls P f vs w R:=by
 refine calls_of_wp hf hb ?_;refine Code.wp_mono (fun e a' w' hq=>?_) (h _ ?_ body hc hz)
 ·obtain⟨rfl|rfl,h1,v,h2,h3⟩:=hq
  ·exact⟨h1,v,h2,h3⟩
  ·exact⟨h1,v,h2,h3⟩
 ·refine⟨?_,rfl,fun t=>?_,⟨fun n b hb=>?_,fun n m y hn _ _ _=>?_,hS,he⟩,Nat.le_refl _,fun _ _ _=>rfl,fun n x h1 h2=>?_,fun _ h=>h,fun b hb=>.inl hb,⟨rfl,rfl⟩,fun j b hb=>?_⟩
  ·simp only[Array.size_append,Array.size_replicate];omega
  ·simp only[St.f,aAk,Nat.zero_le,true_and,Nat.zero_add,Nat.sub_zero];split
   ·rename_i ht
    have e:(vs++Array.replicate (fn.ntmps-vs.size) undef).getD t undef=vs.getD t undef:=by
     have h1:t<vs.size:=by omega
     simp[Array.getElem?_append,h1]
    rw[e];exact .clo (hargs t ht)
   ·exact .junk _
  ·simp[St.f,aB] at hb
  ·simp[St.f,aB] at hn
  ·simp[St.f,aB] at h1
  ·simp[St.f,aB] at hb
end
section
variable [Envs]
variable {P:Program}{C:Ctx}{a:Act}{w:World}{S:Nat→Prop}{ρ:Name→Option Nat}{κ:Name→Nat}
variable {nt:Nat}{dr:Nat→Array Oper→Option (List Nat)}{Q:Exit→Act→World→Prop}
theorem dF.le {τ:St} (h:dF C (fun σ=>LeL σ τ) a w):∃S ρ κ,OK C τ.f a w S ρ κ:=by
 obtain⟨σ,S,ρ,κ,h1,h2⟩:=h;exact⟨S,ρ,κ,h2.le h1⟩
theorem dF.no (h:dF C (fun _=>False) a w):False:=by
 obtain⟨_,_,_,_,h,_⟩:=h;exact h
end
section
variable [Envs]
variable {P:Program}{C:Ctx}{a:Act}{w:World}{S:Nat→Prop}{ρ:Name→Option Nat}{κ:Name→Nat}
structure Own (S:Nat→Prop) (w:World) (x:Option Nat) (c:Nat) (k:Nat) (rows:List (List AV)) (v:Value):Prop where
 loc:aDC (fun _=>x) (fun _=>c) (fun _=>some (.arr k rows false)) (.b 0) 0 rows.length v
 blk:yR S w (fun _=>x) (fun _=>c) (fun _=>some (.arr k rows false)) (.b 0) (.arr k rows false)
 fl:∀r,r∈rows→vU r=true
theorem OK.own {σ:FSt} (hok:OK C σ a w S ρ κ) {n:Name}{k:Nat}{rows:List (List AV)} (hb:σ.h n=some (.arr k rows false)) (hfl:∀r,r∈rows→vU r=true) {v:Value} (hv:RV S w ρ κ σ.h (.loc n 0 rows.length) v) :
  Own S w (ρ n) (κ n) k rows v:=by
 refine⟨fun k' l' z' hl=>?_,hok.hok.blk n _ hb,hfl⟩;obtain⟨rfl,rfl,rfl⟩:k=k'∧rows=l'∧false=z':=by simpa using hl
 exact kW hv k rows false hb
theorem Own.mono {S':Nat→Prop}{w':World}{x:Option Nat}{c k:Nat}{rows:List (List AV)}{v:Value} (h:Own S w x c k rows v) (hS:∀b,x=some b→¬S' b) (hw:∀b,x=some b→w'.heap[b]? = w.heap[b]?):Own S' w' x c k rows v:=by
 refine⟨h.loc,?_,h.fl⟩;obtain⟨hk,hb⟩:=h.blk;refine⟨hk,?_⟩;rcases hb with hb|⟨y,cs,T,fr,g1,g2,g3,g4,g4',g5,g6,g7⟩
 ·exact .inl hb
 ·have g1':x=some y:=g1;refine .inr ⟨y,cs,T,fr,g1,by rw[hw y g1'];exact g2,g3,fun _=>hS y g1',fun h=>(by cases h),g5,g6,fun i j hi hj=>⟨(g7 i j hi hj).1,?_⟩⟩;refine RC.mono (S:=fun _=>False) (w:=w) (fun _ h=>h.elim) (fun _ h=>h.elim) (((g7 i j hi hj).2).flat (gI (h.fl _ ?_)));rw[List.getD_eq_getElem?_getD,List.getElem?_eq_getElem hi];exact List.getElem_mem _
end
section
variable [Envs]
variable {P:Program}{C:Ctx}{a:Act}{w:World}{S:Nat→Prop}{ρ:Name→Option Nat}{κ:Name→Nat}
theorem Own.no {x:Option Nat}{c k:Nat}{rows:List (List AV)}{v:Value} (h:Own S w x c k rows v) {b:Nat} (hb:x=some b):¬S b:=by
 obtain⟨_,⟨g,_⟩|⟨y,cs,T,fr,g1,g2,g3,g4,_⟩⟩:=h.blk
 ·have g':x=none:=g;rw[g'] at hb;cases hb
 ·have g1':x=some y:=g1;rw[g1'] at hb;obtain rfl:=Option.some.inj hb;exact g4 rfl
theorem Fn.has {f:FuncId}{hin:List Blk}{args:List AV}{r:AV}{hout:List (Option Blk)} (h:Fn P f hin args r hout):aBO P f:=h.1
end
end Go.Vs
