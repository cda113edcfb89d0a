/- Regions whose order is open. -/
import Derived.Test.YtkgeiaideklmoaaGreatVsM
set_option linter.all false
set_option maxHeartbeats 8000000
namespace Go.Vs
section
variable [Envs]
variable {P:Program}{C:Ctx}{a:Act}{w:World}{S:Nat→Prop}{ρ:Name→Option Nat}{κ:Name→Nat}
theorem bN {σ:St}{K:St→Prop}{o:Oper}{Q:Exit→Act→World→Prop} (G:OK C σ.f a w S ρ κ) (I:∀d',o.dst=some d'→d'<C.nt) {s:Sem Value}
  (J:execOp a.eval o=(do pure (Next.value (←s)))) (h:Ans P S w ρ κ σ.f.h (fun v=>K ⟨put o.dst v σ.s,σ.h⟩) s):o.wp P a w (cK C K) Q:=by
 obtain⟨x,v,H,F,L⟩:=h;exact uP G I ⟨x,v,H,by rw[J];exact aGv F,L⟩
theorem xE {σ:St}{K:St→Prop}{o:Oper}{d:Nat}{Q:Exit→Act→World→Prop} (G:o.dst=some d) (M:d<C.nt) {s:Sem Value}
  (O:execOp a.eval o=(do pure (Next.value (←s))))
  (h:Made P C σ.f a w S (.t d 0) (fun v b=>(bT (.t d 0) σ=true∧b.has (.t d 0)=false)∧K ⟨(d,v)::σ.s,(.t d 0,b)::σ.h⟩) s):o.wp P a w (cK C K) Q:=by
 obtain⟨x,b,v,w',⟨⟨J,h2⟩,L⟩,H,I⟩:=h;obtain⟨ρ',κ',F,U⟩:=I (dI J) h2
 have e:(St.mk σ.s ((.t d 0,b)::σ.h)).f=⟨σ.f.s,hput σ.f.h (.t d 0) (some b)⟩:=by
  simp only[St.f,FSt.mk.injEq,true_and]
  funext m;simp only[aB,hput]
 unfold Oper.wp;rw[O,aGv H];show cK C K (a.put o.dst v) w'
 rw[←e] at F;rw[G];exact cK.put (σ:=⟨σ.s,(.t d 0,b)::σ.h⟩) F (by rw[e];exact U) (fun d' h=>by rw[←Option.some.inj h];exact M) L
theorem bare_eq {op F:AOp} (h:op.bare0=F):(∃f args bor,op=.call f args bor∧F=.call f args [])∨((∀f args bor,op≠.call f args bor)∧op=F):=by
 cases op<;>simp only[AOp.bare0] at h<;>first
  |exact .inr ⟨by simp,h⟩
  |exact .inl ⟨_,_,_,rfl,h.symm⟩
theorem aEG {T:TypeId}{g:Bool}{k:Nat} (h:uU P T=some (g,k)):iO P T=some g:=by
 unfold uU at h;split at h
 ·rename_i n F h2;simp only[Option.some.injEq,Prod.mk.injEq] at h;rw[F,h.1]
 ·rename_i n F h2;simp only[Option.some.injEq,Prod.mk.injEq] at h;rw[F,h.1]
 ·cases h
theorem aF6 {α:Type}{x:Array α}{p q:α} (h:x.toList=[p,q]):x=#[p,q]:=by
 apply Array.ext';simpa using h
theorem arr1 {α:Type}{x:Array α}{p:α} (h:x.toList=[p]):x=#[p]:=by
 apply Array.ext';simpa using h
theorem aEi {o:Oper}{c:Call}{b:Builtin} (G:o.op=.call c) (F:c.callee=.builtin b) :
  execOp a.eval o=builtin b c.argTypes o.type (c.args.map fun|.const _=>true|_=>false) (c.args.map a.eval):=by
 simp only[execOp,G,resolve,F];rfl
theorem oC {σ:St}{K:St→Prop}{o:Oper}{op:AOp}{Q:Exit→Act→World→Prop} (F:comp P o.op=some op.bare0) (G:OK C σ.f a w S ρ κ) (L:∀d',o.dst=some d'→d'<C.nt)
  (H:bG P o.dst σ K op):o.wp P a w (cK C K) Q:=by
 generalize I:o.op=oop at F;cases oop
 case move x =>
  simp only[comp,Option.some.injEq] at F;rcases bare_eq F.symm with⟨f,args,bor,rfl,h⟩|⟨_,rfl⟩
  ·cases h
  ·exact uP G L ⟨_,_,H,by simp[execOp,I],G.ev x⟩
 case assign x =>
  simp only[comp,Option.some.injEq] at F;rcases bare_eq F.symm with⟨f,args,bor,rfl,h⟩|⟨_,rfl⟩
  ·cases h
  ·exact uP G L ⟨_,_,H,by simp[execOp,I],G.ev x⟩
 case pick c x y =>
  simp only[comp,Option.some.injEq] at F;rcases bare_eq F.symm with⟨f,args,bor,rfl,h⟩|⟨_,rfl⟩
  ·cases h
  ·have hy:=G.ev c;simp only[bG,rd] at H;split at H
   ·rename_i t ht;rw[show evO σ.f.s c=_ from ht] at hy;have:=bM hy;cases t
    ·exact uP G L ⟨_,_,H.2 rfl,by simp[execOp,I,this,asBool],G.ev y⟩
    ·exact uP G L ⟨_,_,H.1 rfl,by simp[execOp,I,this,asBool],G.ev x⟩
   ·exact H.elim
 case alloc t =>
  simp only[comp] at F;cases hz:zOf P t with
  |none=>rw[hz] at F;cases F
  | some z =>
   rw[hz] at F;simp only[Option.map_some,Option.some.injEq] at F;rcases bare_eq F.symm with⟨f,args,bor,rfl,h⟩|⟨_,rfl⟩
   ·cases h
   ·simp only[bG] at H;split at H
    ·rename_i d J;exact xE J (L d J) (by simp only[execOp,I]) (aJG G hz H)
    ·exact H.elim
 case box t x =>
  simp only[comp,Option.some.injEq] at F;rcases bare_eq F.symm with⟨f,args,bor,rfl,h⟩|⟨_,rfl⟩
  ·cases h
  ·simp only[bG] at H;split at H
   ·rename_i d J;exact xE J (L d J) (by simp only[execOp,I]) (aLW (T:=t) G H)
   ·exact H.elim
 case build t ps =>
  simp only[comp] at F;split at F
  ·rename_i fs z M hz;split at F
   ·rename_i hq;cases hp:bpS P fs ps.toList with
    |none=>rw[hp] at F;cases F
    | some rp =>
     rw[hp] at F;simp only[Option.map_some,Option.some.injEq] at F;rcases bare_eq F.symm with⟨f,args,bor,rfl,h⟩|⟨_,rfl⟩
     ·cases h
     ·exact bN G L (by simp only[execOp,I]) (aAx G M hz hq hp H)
   ·cases F
  ·rename_i m e z M hz;cases hn:jS P e with
   |none=>rw[hn] at F;cases F
   | some n =>
    rw[hn] at F;simp only[Option.map_some,Option.some.injEq] at F;rcases bare_eq F.symm with⟨f,args,bor,rfl,h⟩|⟨_,rfl⟩
    ·cases h
    ·exact bN G L (by simp only[execOp,I]) (aBb G M hz hn H)
  ·cases F
 case buildSlice t m ps =>
  simp only[comp] at F;split at F
  ·rename_i e M;split at F
   ·rename_i k z hk hz;simp only[Option.some.injEq] at F;rcases bare_eq F.symm with⟨f,args,bor,rfl,h⟩|⟨_,rfl⟩
    ·cases h
    ·simp only[bG] at H;split at H
     ·rename_i d J;refine xE (σ:=σ) (S:=S) (K:=K) J (L d J) (s:=Instr.buildSlice t m (ps.map fun(i,x)=>(i,a.eval x))) (by simp only[execOp,I]) ?_;have:=aHX G M hk hz H
      have e1:(ps.toList.map fun p=>(p.1,a.eval p.2)).toArray=ps.map fun(i,x)=>(i,a.eval x):=by
       apply Array.ext';simp
      rw[e1] at this;exact this
     ·exact H.elim
   ·cases F
  ·cases F
 case load t x =>
  simp only[comp] at F;cases hl:uU P t with
  |none=>rw[hl] at F;cases F
  | some p =>
   rw[hl] at F;simp only[Option.map_some,Option.some.injEq] at F;rcases bare_eq F.symm with⟨f,args,bor,rfl,h⟩|⟨_,rfl⟩
   ·cases h
   ·exact bN G L (by simp only[execOp,I]) (aGB G hl H)
 case store t A X =>
  simp only[comp] at F;cases hl:jS P t with
  |none=>rw[hl] at F;cases F
  | some k =>
   rw[hl] at F;simp only[Option.map_some,Option.some.injEq] at F;rcases bare_eq F.symm with⟨f,args,bor,rfl,h⟩|⟨_,rfl⟩
   ·cases h
   ·obtain⟨h8,H⟩:=H
    have:=aHZ G (A:=A) (X:=X) hl (K:=fun h'=>∃l,aB l=h'∧K ⟨σ.s,l⟩) (by
      simp only[wrS,St.f];split at H
      · rename_i n e c hA
        rw[hA];split at H
        · rename_i b cs hb h7
          simp only[hb,h7];exact⟨H.1,_,u6 _ _ _,H.2⟩
        · exact H.elim
      · exact H.elim)
    obtain⟨h',w',⟨l,rfl,hK⟩,he,ha⟩:=this;unfold Oper.wp;have hr:(execOp a.eval o).run P w=.ok .skip w':=by simp[execOp,I,he]
    rw[hr];simp only[Oper.upon,h8,Act.put];exact⟨⟨σ.s,l⟩,S,ρ,κ,hK,ha⟩
 case nilCheck x =>
  simp only[comp,Option.some.injEq] at F;rcases bare_eq F.symm with⟨f,args,bor,rfl,h⟩|⟨_,rfl⟩
  ·cases h
  ·exact uP G L (aJ3 G I H)
 case binOp op t x y yt =>
  simp only[comp] at F;split at F
  ·simp only[Option.some.injEq] at F;rcases bare_eq F.symm with⟨f,args,bor,rfl,h⟩|⟨_,rfl⟩
   ·cases h
   ·exact bN G L (by simp only[execOp,I]) (aLv (t:=t) G H)
  ·simp only[Option.some.injEq] at F;rcases bare_eq F.symm with⟨f,args,bor,rfl,h⟩|⟨_,rfl⟩
   ·cases h
   ·exact bN G L (by simp only[execOp,I]) (aJ9 (t:=t) G H)
  ·rename_i M;simp only[Option.some.injEq] at F;rcases bare_eq F.symm with⟨f,args,bor,rfl,h⟩|⟨_,rfl⟩
   ·cases h
   ·exact bN G L (by simp only[execOp,I]) (aKa G M H)
  ·rename_i M;split at F
   ·rename_i ks h4;split at F
    ·rename_i hm;split at F
     ·simp only[Option.some.injEq] at F;rcases bare_eq F.symm with⟨f,args,bor,rfl,h⟩|⟨_,rfl⟩
      ·cases h
      ·exact bN G L (by simp only[execOp,I]) (aIG G (.inl ⟨rfl,rfl⟩) h4 hm.1 hm.2 H)
     ·simp only[Option.some.injEq] at F;rcases bare_eq F.symm with⟨f,args,bor,rfl,h⟩|⟨_,rfl⟩
      ·cases h
      ·exact bN G L (by simp only[execOp,I]) (aIG G (.inr ⟨rfl,rfl⟩) h4 hm.1 hm.2 H)
     ·cases F
    ·cases F
   ·cases F
  ·cases F
 case unOp op t x =>
  simp only[comp,Option.some.injEq] at F;rcases bare_eq F.symm with⟨f,args,bor,rfl,h⟩|⟨_,rfl⟩
  ·cases h
  ·exact bN G L (by simp only[execOp,I]) (rd_un G H)
 case convert s d x =>
  simp only[comp] at F;split at F
  ·rename_i h1 h2;simp only[Option.some.injEq] at F;rcases bare_eq F.symm with⟨f,args,bor,rfl,h⟩|⟨_,rfl⟩
   ·cases h
   ·exact bN G L (by simp only[execOp,I]) (aJ8 G h1 h2 H)
  ·rename_i e h1 h2;split at F
   ·rename_i h3;simp only[Option.some.injEq] at F;rcases bare_eq F.symm with⟨f,args,bor,rfl,h⟩|⟨_,rfl⟩
    ·cases h
    ·exact bN G L (by simp only[execOp,I]) (aLw G h1 h3 h2 H)
   ·cases F
  ·cases F
 case makeFunc fn first caps =>
  cases fn
  case func g =>
   simp only[comp] at F;split at F
   ·rename_i qd;simp only[Option.some.injEq] at F;rcases bare_eq F.symm with⟨f,args,bor,rfl,h⟩|⟨_,rfl⟩
    ·cases h
    ·have h9:first=#[]:=Array.eq_empty_of_size_eq_zero qd
     have:=aJ4 (P:=P) (w:=w) (K:=fun v=>K ⟨put o.dst v σ.s,σ.h⟩) G H;refine bN G L (s:=Instr.makeFunc (.func g) #[] (caps.map a.eval)) (by simp only[execOp,I,h9,List.map_toArray,List.map_nil]) ?_;simpa using this
   ·cases F
  all_goals simp[comp] at F
 case makeSlice t l c =>
  simp only[comp] at F;split at F
  ·rename_i qb;obtain rfl:=aIt qb;split at F
   ·rename_i e M;split at F
    ·rename_i i hi;split at F
     ·rename_i z hz;simp only[Option.some.injEq] at F;rcases bare_eq F.symm with⟨f,args,bor,rfl,h⟩|⟨_,rfl⟩
      ·cases h
      ·simp only[bG] at H;split at H
       ·rename_i d J;exact xE J (L d J) (by simp only[execOp,I]) (al_mk G M hi hz H)
       ·exact H.elim
     ·cases F
    ·cases F
   ·cases F
  ·cases F
 case slice t x lo hi mx =>
  cases mx
  case none =>
   simp only[comp] at F;split at F
   ·rename_i e M;cases hk:jS P e with
    |none=>rw[hk] at F;cases F
    | some k =>
     rw[hk] at F;simp only[Option.map_some,Option.some.injEq] at F;rcases bare_eq F.symm with⟨f,args,bor,rfl,h⟩|⟨_,rfl⟩
     ·cases h
     ·exact bN G L (by simp only[execOp,I];rfl) (aLt G M hk H)
   ·rename_i M;simp only[Option.some.injEq] at F;rcases bare_eq F.symm with⟨f,args,bor,rfl,h⟩|⟨_,rfl⟩
    ·cases h
    ·exact bN G L (by simp only[execOp,I];rfl) (aJ2 G M H)
   ·cases F
  case some=>simp[comp] at F
 case fieldAddr s x i =>
  simp only[comp] at F;split at F
  ·rename_i f hf;split at F
   ·rename_i n hn;simp only[Option.some.injEq] at F;rcases bare_eq F.symm with⟨f,args,bor,rfl,h⟩|⟨_,rfl⟩
    ·cases h
    ·exact bN G L (by simp only[execOp,I]) (aDz G hf hn (by omega) H)
   ·cases F
  ·cases F
 case field s x i =>
  simp only[comp] at F;split at F
  ·rename_i f hf;cases hl:uU P f.type with
   |none=>rw[hl] at F;cases F
   | some p =>
    obtain⟨g,n⟩:=p;rw[hl] at F;simp only[Option.bind_some] at F;split at F
    ·rename_i hs;simp only[Option.some.injEq] at F;rcases bare_eq F.symm with⟨f,args,bor,rfl,h⟩|⟨_,rfl⟩
     ·cases h
     ·have hg:=aEG hl;exact bN G L (by simp only[execOp,I]) (aIF G hf hs hg (fun h=>aAa (h ▸ hl)) H)
    ·cases F
  ·cases F
 case indexAddr t x i =>
  simp only[comp] at F;split at F
  ·rename_i e M;cases hk:jS P e with
   |none=>rw[hk] at F;cases F
   | some k =>
    rw[hk] at F;simp only[Option.map_some,Option.some.injEq] at F;rcases bare_eq F.symm with⟨f,args,bor,rfl,h⟩|⟨_,rfl⟩
    ·cases h
    ·exact bN G L (by simp only[execOp,I]) (aIE G M hk H)
  ·rename_i n e M;cases hk:jS P e with
   |none=>rw[hk] at F;cases F
   | some k =>
    rw[hk] at F;simp only[Option.map_some,Option.some.injEq] at F;rcases bare_eq F.symm with⟨f,args,bor,rfl,h⟩|⟨_,rfl⟩
    ·cases h
    ·exact bN G L (by simp only[execOp,I]) (aHn G M hk H)
  ·cases F
 case index t x i =>
  simp only[comp] at F;split at F
  ·rename_i M;simp only[Option.some.injEq] at F;rcases bare_eq F.symm with⟨f,args,bor,rfl,h⟩|⟨_,rfl⟩
   ·cases h
   ·exact bN G L (by simp only[execOp,I]) (aHm G M H)
  ·rename_i n e M;cases hl:uU P e with
   |none=>rw[hl] at F;cases F
   | some p =>
    obtain⟨g,k⟩:=p;rw[hl] at F;simp only[Option.bind_some] at F;split at F
    ·rename_i hs;simp only[Option.some.injEq] at F;rcases bare_eq F.symm with⟨f,args,bor,rfl,h⟩|⟨_,rfl⟩
     ·cases h
     ·have hg:=aEG hl;exact bN G L (by simp only[execOp,I]) (aHo G M hs hg (fun h=>aAa (h ▸ hl)) H)
    ·cases F
  ·cases F
 case extract x i =>
  simp only[comp,Option.some.injEq] at F;rcases bare_eq F.symm with⟨f,args,bor,rfl,h⟩|⟨_,rfl⟩
  ·cases h
  ·exact bN G L (by simp only[execOp,I]) (aFx G H)
 case call c =>
  simp only[comp] at F;split at F
  ·rename_i b O;have hb:=aEi (a:=a) I O;unfold rY at F;split at F
   ·rename_i t x U Y;have e1:=arr1 U;have e2:=arr1 Y;split at F
    ·rename_i e M;simp only[Option.some.injEq] at F;rcases bare_eq F.symm with⟨f,args,bor,rfl,h⟩|⟨_,rfl⟩
     ·cases h
     ·exact bN G L (s:=Builtin.len_ #[t] o.type #[a.eval x]) (by rw[hb,e1,e2];simp only[builtin,List.map_toArray,List.map_cons,List.map_nil]) (aLu G M H)
    ·rename_i M;simp only[Option.some.injEq] at F;rcases bare_eq F.symm with⟨f,args,bor,rfl,h⟩|⟨_,rfl⟩
     ·cases h
     ·exact bN G L (s:=Builtin.len_ #[t] o.type #[a.eval x]) (by rw[hb,e1,e2];simp only[builtin,List.map_toArray,List.map_cons,List.map_nil]) (aJ5 G M H)
    ·rename_i n e M;simp only[Option.some.injEq] at F;rcases bare_eq F.symm with⟨f,args,bor,rfl,h⟩|⟨_,rfl⟩
     ·cases h
     ·exact bN G L (s:=Builtin.len_ #[t] o.type #[a.eval x]) (by rw[hb,e1,e2];simp only[builtin,List.map_toArray,List.map_cons,List.map_nil]) (aJ6 _ M H)
    ·cases F
   ·rename_i t t2 A X U Y;have e1:=aF6 U;have e2:=aF6 Y;split at F
    ·rename_i e qh M qe;split at F
     ·rename_i i hi;split at F
      ·rename_i z hz;split at F
       ·rename_i qg;simp only[Option.some.injEq] at F;rcases bare_eq F.symm with⟨f,args,bor,rfl,h⟩|⟨_,rfl⟩
        ·cases h
        ·simp only[bG] at H;split at H
         ·rename_i d J;split at H
          ·rename_i on l l' hw qc;obtain⟨⟨hf,h1,h2⟩,hK⟩:=H
           have ho:=aHd (P:=P) (ty:=o.type) G (K:=fun σ' x=>∃σl:St,σl.f=σ'∧K ⟨(d,x)::σl.s,σl.h⟩) M qe hi hz qg (A:=A) (X:=X) (d:=.t d 0) (fun qi l2 hj=>by
             simp only[St.f] at hj;rw[hw] at hj;simp only[Option.some.injEq,Prod.mk.injEq] at hj;obtain⟨rfl,rfl⟩:=hj;have:=dI hf;rw[aEO] at this;exact this) (by
             simp only[wrA,St.f,hw,qc];refine⟨⟨h1,h2⟩,⟨(aO on σ).s,(.t d 0,.arr i.size (l++l') false)::(aO on σ).h⟩,?_,hK⟩;have h0:=aEO on σ;have k1:look (aO on σ).s=(aA0 on ⟨look σ.s,aB σ.h⟩).s:=congrArg FSt.s h0;have k2:aB (aO on σ).h=(aA0 on ⟨look σ.s,aB σ.h⟩).h:=congrArg FSt.h h0;simp only[FSt.mk.injEq];refine⟨k1,?_⟩
             funext m
             simp only[aB,hput,←k2])
           obtain⟨σ',x,v,w',ρ',κ',⟨σl,rfl,h5⟩,he,ha,hx⟩:=ho;unfold Oper.wp
           have hr:(execOp a.eval o).run P w=.ok (.value v) w':=by
            rw[hb,e1,e2];simp only[builtin,List.map_toArray,List.map_cons,List.map_nil];exact aGv he
           rw[hr];simp only[Oper.upon,J];exact cK.put ha hx (d:=some d) (fun d' h=>by rw[←Option.some.inj h];exact L d J) h5
          ·exact H.elim
         ·exact H.elim
       ·cases F
      ·cases F
     ·cases F
    ·cases F
   ·rename_i t t2 x y U Y;have e1:=aF6 U;have e2:=aF6 Y;simp only[Option.some.injEq] at F;rcases bare_eq F.symm with⟨f,args,bor,rfl,h⟩|⟨_,rfl⟩
    ·cases h
    ·exact bN G L (s:=Builtin.max_ #[t,t2] o.type #[a.eval x,a.eval y]) (by rw[hb,e1,e2];simp only[builtin,List.map_toArray,List.map_cons,List.map_nil]) (aK3 (mx:=true) (t:=#[t,t2]) (T:=o.type) G H)
   ·rename_i t t2 x y U Y;have e1:=aF6 U;have e2:=aF6 Y;simp only[Option.some.injEq] at F;rcases bare_eq F.symm with⟨f,args,bor,rfl,h⟩|⟨_,rfl⟩
    ·cases h
    ·exact bN G L (s:=Builtin.min_ #[t,t2] o.type #[a.eval x,a.eval y]) (by rw[hb,e1,e2];simp only[builtin,List.map_toArray,List.map_cons,List.map_nil]) (aK3 (mx:=false) (t:=#[t,t2]) (T:=o.type) G H)
   ·rename_i t x U Y;have e1:=arr1 U;have e2:=arr1 Y;split at F
    ·rename_i e M;split at F
     ·rename_i i hi;split at F
      ·rename_i z hz;simp only[Option.some.injEq] at F;rcases bare_eq F.symm with⟨f,args,bor,rfl,h⟩|⟨_,rfl⟩
       ·cases h
       ·have ho:=aLg (P:=P) (ty:=o.type) G M hi hz (X:=x) (K:=fun h'=>∃l,aB l=h'∧K ⟨Vs.put o.dst (.v (.tuple #[])) σ.s,l⟩) (by
          simp only[wrC,St.f];simp only[bG] at H;split at H
          · rename_i n off len hA
            rw[hA];split at H
            · rename_i k' l fz h6
              simp only[h6];exact⟨H.1,_,u6 _ _ _,H.2⟩
            · exact H.elim
          · exact H.elim)
        obtain⟨h',w',⟨l,rfl,hK⟩,he,ha⟩:=ho;unfold Oper.wp
        have hr:(execOp a.eval o).run P w=.ok (.value (.tuple #[])) w':=by
         rw[hb,e1,e2];simp only[builtin,List.map_toArray,List.map_cons,List.map_nil];exact aGv he
        rw[hr];exact cK.put (σ:=⟨σ.s,l⟩) ha (.clo (.v _)) L hK
      ·cases F
     ·cases F
    ·cases F
   ·cases F
  ·rename_i f O;split at F
   ·rename_i qa;split at F
    ·rename_i x y qf;simp only[Option.some.injEq] at F;rcases bare_eq F.symm with⟨f',args,bor,rfl,h⟩|⟨_,rfl⟩
     ·cases h
     ·exact uP G L (aJ7 G I O (aF6 qf) qa H)
    ·cases F
   ·simp only[Option.some.injEq] at F;rcases bare_eq F.symm with⟨f',args,bor,rfl,h⟩|⟨hn,h⟩
    ·simp only[AOp.call.injEq] at h;obtain⟨rfl,rfl,_⟩:=h;exact aCD G L I O H
    ·exact absurd h (hn _ _ _)
  ·rename_i f _ O;simp only[Option.some.injEq] at F;rcases bare_eq F.symm with⟨f',args,bor,rfl,h⟩|⟨hn,h⟩
   ·simp only[AOp.call.injEq] at h;obtain⟨rfl,rfl,_⟩:=h;exact aCD G L I O H
   ·exact absurd h (hn _ _ _)
  ·cases F
 all_goals simp[comp] at F
theorem OK.close {σ:FSt} (F:OK C σ a w S ρ κ) {n:Name}{k d:Nat}{rows:List (List AV)}{z:Bool} (M:σ.h n=some (.arr k rows z)) (hd:σ.s d=.loc n 0 rows.length) :
  OK C ⟨upd σ.s (some d) (.sl k rows),fun m=>if m=n then none else σ.h m⟩ a w (fun b=>S b∨ρ n=some b) ρ κ:=by
 have L:∀b,S b→S b∨ρ n=some b:=fun b h=>.inl h
 have hn:∀m,fC ρ ρ κ κ σ.h (fun m=>if m=n then none else σ.h m) m:=by
  intro m I G;simp only at G;split at G
  ·cases G
  ·exact⟨rfl,rfl,I,G,I.same_refl⟩
 have H:∀m,((fun m=>if m=n then none else σ.h m) m).isSome→m≠n∧(σ.h m).isSome:=by
  intro m J;simp only at J;split at J
  ·cases J
  ·exact⟨by assumption,J⟩
 have hv:=F.slots d;rw[hd] at hv
 have hc:=(nV F.hok L (E:=[]) (ρ':=ρ) (κ':=κ) (h':=σ.h) (by simp) 8 true (.loc n 0 rows.length) (.sl k ((rows.drop 0).take rows.length)) [n] _ (by simp[conv,jT,M])
   (fun m J y hy=>by rw[List.mem_singleton.1 J] at hy;exact .inr hy) hv).2.1 rfl
 rw[List.drop_zero,List.take_length] at hc
 refine ⟨F.nt,F.defers,fun t=>?_,⟨fun m I G=>?_,fun m O y U h2 h3 h4=>F.hok.inj m O y (H m U).2 (H O h2).2 h3 h4,fun b G=>?_,F.hok.env.mono L fun _ _=>rfl⟩,F.size,F.old,
   fun m y U h2=>F.mine m y (H m U).2 h2,fun b h=>.inl (F.S0 b h),fun b h=>?_,F.out,fun j I G=>?_⟩
 ·simp only[upd];split
  ·subst_vars;exact .clo hc
  ·exact(F.slots t).mono L (fun _ _=>rfl) fun m _=>hn m
 ·simp only at G;split at G
  ·cases G
  ·rename_i Y;refine(F.hok.blk m I G).mono L (fun x hx h=>?_) (fun _ _=>rfl) (fun _ _=>rfl) rfl rfl fun O _=>hn O;rcases h with h|h
   ·exact h
   ·exact absurd (F.hok.inj m n x (by simp[G]) (by simp[M]) hx h) Y
 ·rcases G with h|h
  ·exact F.hok.dom b h
  ·exact F.hok.lt (n:=n) (by simp[M]) h
 ·rcases h with h|h
  ·exact F.Snew b h
  ·exact .inr (F.mine n b (by simp[M]) h)
 ·simp only at G;split at G
  ·cases G
  ·exact F.keep j I G
theorem aCd {σ:St}{K:St→Prop}{n:Name}{k d:Nat}{rows:List (List AV)}{z:Bool}{s:List (Nat×AV)}{h:List (Name×Blk)} (J:σ=⟨(d,.loc n 0 rows.length)::s,(n,.arr k rows z)::h⟩) (I:aB h n=none)
  (H:K ⟨(d,.sl k rows)::s,h⟩) (F:OK C σ.f a w S ρ κ):cK C K a w:=by
 subst J;have:=F.close (n:=n) (k:=k) (d:=d) (rows:=rows) (z:=z) (by simp[St.f,aB]) (by simp[St.f,look]);refine⟨⟨(d,.sl k rows)::s,h⟩,fun b=>S b∨ρ n=some b,ρ,κ,H,?_⟩
 have G:(⟨upd (St.f ⟨(d,.loc n 0 rows.length)::s,(n,.arr k rows z)::h⟩).s (some d) (.sl k rows),fun m=>if m=n then none else(St.f ⟨(d,.loc n 0 rows.length)::s,(n,.arr k rows z)::h⟩).h m⟩:FSt)=(⟨(d,.sl k rows)::s,h⟩:St).f:=by
  simp only[St.f,FSt.mk.injEq];refine⟨funext fun t=>?_,funext fun m=>?_⟩
  ·simp only[upd,look];split<;>rfl
  ·simp only[aB];split
   ·subst_vars;exact I.symm
   ·rfl
 rw[G] at this;exact this
theorem wR {n:Name}{σ:St} (h:bT n σ=true):aB σ.h n=none:=(dI h).1.1
theorem uO {σ:St}{K:St→Prop}{o:Oper}{op:AOp}{Q:Exit→Act→World→Prop} (J:comp P o.op=some op.bare) (H:OK C σ.f a w S ρ κ) (U:∀d',o.dst=some d'→d'<C.nt)
  (G:bG P o.dst σ K op):o.wp P a w (cK C K) Q:=by
 by_cases M:∃k y A X,op=.appendC k y A X
 ·obtain⟨k,y,A,X,rfl⟩:=M;cases hds:o.dst with
  |none=>rw[hds] at G;exact G.elim
  | some d =>
   simp only[bG,hds] at G;split at G
   ·rename_i on l l' hA hX;obtain⟨⟨hf,ha⟩,O⟩:=G
    refine Oper.wp_mono (fun a' w' ⟨σ',S',ρ',κ',hσ,hok'⟩=>?_) (oC (P:=P) (op:=.append k y A X) (K:=fun σ'=>σ'=⟨(d,.loc (.t d 0) 0 (l.length+l'.length))::(aO on σ).s,(.t d 0,.arr k (l++l') false)::(aO on σ).h⟩) J H U (by
      simp only[bG,hds,hA,hX];exact⟨⟨hf,ha⟩,trivial⟩))
    exact aCd (by rw[hσ,List.length_append]) (wR hf) O hok'
   ·exact G.elim
 ·by_cases h2:∃k m z L,op=.bsliceC k m z L
  ·obtain⟨k,m,z,L,rfl⟩:=h2;cases hds:o.dst with
   |none=>rw[hds] at G;exact G.elim
   | some d =>
    simp only[bG,hds] at G
    refine Oper.wp_mono (fun a' w' ⟨σ',S',ρ',κ',⟨rows,hσ,hf,O⟩,hok'⟩=>?_) (oC (P:=P) (op:=.bslice k m z L) (K:=fun σ'=>∃rows,σ'=⟨(d,.loc (.t d 0) 0 rows.length)::σ.s,(.t d 0,.arr k rows false)::σ.h⟩∧bT (.t d 0) σ=true∧K ⟨(d,.sl k rows)::σ.s,σ.h⟩) J H U (by
      simp only[bG,hds]
      have:∀{K1 K2:AV→Blk→Prop}{op:AOp},(∀v b,K1 v b→K2 v b)→al (evO (look σ.s)) (aB σ.h) (.t d 0) K1 op→al (evO (look σ.s)) (aB σ.h) (.t d 0) K2 op:=by
        intro K1 K2 op I F
        have lay:∀(L:List (Nat×Nat×Operand)) (cs:List AV) {Y L2:List AV→Prop},(∀c,Y c→L2 c)→layAll (evO (look σ.s)) (aB σ.h) cs L Y→layAll (evO (look σ.s)) (aB σ.h) cs L L2:=by
          intro L
          induction L with
          |nil=>intro cs Y L2 hh F;exact hh _ F
          | cons p r ih =>
            intro cs Y L2 hh F;obtain⟨o,n,x⟩:=p;simp only[layAll] at F⊢;split at F
            · exact⟨F.1,ih _ hh F.2⟩
            · exact F
        cases op<;>simp only[al] at F⊢<;> try exact F
        · split at F
          · exact I _ _ F
          · exact F
        · exact⟨F.1,I _ _ F.2⟩
        · exact⟨F.1,lay _ _ (fun c J=>⟨J.1,I _ _ J.2⟩) F.2⟩
        · split at F
          · exact⟨F.1,I _ _ F.2⟩
          · exact F
      refine this (fun v b hb=>?_) G;obtain⟨M,rows,rfl,rfl,O⟩:=hb;exact⟨M,rows,rfl,M.1,O⟩))
    exact aCd hσ (wR hf) O hok'
  ·by_cases h3:∃g k A,op=.loadV g k A
   ·obtain⟨g,k,A,rfl⟩:=h3;exact oC (op:=.load g k A) J H U (by simp only[bG] at G⊢;exact aID G)
   ·by_cases h4:∃f A,op=.fieldV f A
    ·obtain⟨f,A,rfl⟩:=h4;exact oC (op:=.fieldAddr f A) J H U (by simp only[bG] at G⊢;exact aHp G)
    ·have e:op.bare=op.bare0:=by
      cases op<;>first
       |rfl
       |exact absurd ⟨_,_,_,_,rfl⟩ M
       |exact absurd ⟨_,_,_,_,rfl⟩ h2
       |exact absurd ⟨_,_,_,rfl⟩ h3
       |exact absurd ⟨_,_,rfl⟩ h4
     exact oC (by rw[J,e]) H U G
def aDW (t:Nat) (σ:St) (N:St→Prop):Prop:=match look σ.s t with
 | .loc n lo m=>match aB σ.h n with
  |some (.arr k rows _)=>(lo=0∧m=rows.length)∧N ⟨(t,.sl k rows)::(aW n σ).s,(aW n σ).h⟩
  |_=>False
 |_=>N σ
theorem aE7 {σ:St}{N:St→Prop}{t:Nat} (F:aDW t σ N) (G:OK C σ.f a w S ρ κ):cK C N a w:=by
 unfold aDW at F;split at F
 ·rename_i n lo m O;split at F
  ·rename_i k rows z M;obtain⟨⟨rfl,rfl⟩,L⟩:=F;have I:=(G.close (n:=n) (k:=k) (d:=t) (rows:=rows) (z:=z) M O).kill n;refine⟨_,fun b=>S b∨ρ n=some b,ρ,κ,L,?_⟩
   have J:nA n ⟨upd σ.f.s (some t) (.sl k rows),fun m=>if m=n then none else σ.f.h m⟩=(⟨(t,.sl k rows)::(aW n σ).s,(aW n σ).h⟩:St).f:=by
    simp only[nA,St.f,FSt.mk.injEq];refine⟨funext fun u=>?_,funext fun m=>?_⟩
    ·simp only[upd,look];by_cases H:u=t
     ·subst H;simp[scr,AV.has]
     ·rw[if_neg H,if_neg H];exact(mM (scr n) (by simp[scr,AV.has]) _ u).symm
    ·simp only[aW,rJ];split<;>simp
   rw[J] at I;exact I
  ·exact F.elim
 ·exact⟨σ,S,ρ,κ,F,G⟩
/-! ## another name for a block -/
def nmF (n m:Name) (x:Name):Option Name:=if x=n then some m else if x=m then none else some x
theorem OK.rename {σ:FSt} (F:OK C σ a w S ρ κ) {n m:Name} (hf:n≠m) (hm:σ.h m=none) (hc:∀j,m≠.b j) :
  ∃ρ' κ',OK C ⟨fun t=>rn (nmF n m) (σ.s t),fun x=>if x=m then(σ.h n).map (rnB (nmF n m)) else if x=n then none else(σ.h x).map (rnB (nmF n m))⟩ a w S ρ' κ':=by
 let ρ':Name→Option Nat:=fun x=>if x=m then ρ n else ρ x
 let κ':Name→Nat:=fun x=>if x=m then κ n else κ x
 let h':Name→Option Blk:=fun x=>if x=m then(σ.h n).map (rnB (nmF n m)) else if x=n then none else(σ.h x).map (rnB (nmF n m))
 have back:∀x L,h' x=some L→∃y b,σ.h y=some b∧L=rnB (nmF n m) b∧ρ' x=ρ y∧κ' x=κ y∧((x=m∧y=n)∨(x=y∧x≠m∧x≠n)):=by
  intro x L H;simp only[h'] at H;split at H
  ·rename_i G;obtain⟨b,M,h2⟩:=Option.map_eq_some_iff.1 H;exact⟨n,b,M,h2.symm,by simp[ρ',G],by simp[κ',G],.inl ⟨G,rfl⟩⟩
  ·rename_i G;split at H
   ·cases H
   ·rename_i O;obtain⟨b,M,h2⟩:=Option.map_eq_some_iff.1 H;exact⟨x,b,M,h2.symm,by simp[ρ',G],by simp[κ',G],.inr ⟨rfl,G,O⟩⟩
 have hφ:∀x y,nmF n m x=some y→ρ' y=ρ x∧κ' y=κ x∧∀L,h' y=some L→∃b,σ.h x=some b∧b.same L:=by
  intro x y J
  have hy:ρ' y=ρ x∧κ' y=κ x∧(h' y=(σ.h x).map (rnB (nmF n m))):=by
   simp only[nmF] at J;split at J
   ·rename_i G;obtain rfl:=Option.some.inj J;exact⟨by simp[ρ',G],by simp[κ',G],by simp[h',G]⟩
   ·rename_i G;split at J
    ·cases J
    ·rename_i O;obtain rfl:=Option.some.inj J;exact⟨by simp[ρ',O],by simp[κ',O],by simp[h',G,O]⟩
  refine⟨hy.1,hy.2.1,fun L H=>?_⟩;rw[hy.2.2] at H;obtain⟨b,M,rfl⟩:=Option.map_eq_some_iff.1 H;exact⟨b,M,zQ _ _⟩
 have I:∀x,(h' x).isSome→∃y,(σ.h y).isSome∧ρ' x=ρ y∧((x=m∧y=n)∨(x=y∧x≠m∧x≠n)):=by
  intro x G;obtain⟨L,H⟩:=Option.isSome_iff_exists.1 G;obtain⟨y,b,M,_,h2,_,Y⟩:=back x L H;exact⟨y,by simp[M],h2,Y⟩
 refine⟨ρ',κ',F.nt,F.defers,fun t=>(F.slots t).ren hφ,⟨fun x L H=>?_,fun x y z G hy hd he=>?_,F.hok.dom,F.hok.env⟩,F.size,F.old,fun x z G hz=>?_,F.S0,F.Snew,F.out,fun j b H=>?_⟩
 ·obtain⟨y,b,M,rfl,h2,Y,_⟩:=back x L H;have ha:=F.hok.blk y b M;cases b with
  | var c z =>
   obtain⟨u,cs,T,fr,g1,g2,g3,g4,U,g5,g6,g7⟩:=ha;refine⟨u,cs,T,fr,by rw[h2];exact g1,g2,g3,g4,U,by rw[Y];exact g5,by rw[bR];exact g6,fun j hj=>?_⟩;rw[bR] at hj;rw[mH _ _ _ hj];exact⟨(g7 j hj).1,(g7 j hj).2.ren hφ⟩
  | arr k l z =>
   obtain⟨g0,g⟩:=ha;refine⟨g0,?_⟩;rcases g with⟨g1,g2⟩|⟨u,cs,T,fr,g1,g2,g3,g4,U,g5,g6,g7⟩
   ·exact .inl ⟨by rw[h2];exact g1,g2⟩
   ·exact .inr ⟨u,cs,T,fr,by rw[h2];exact g1,g2,g3,g4,U,by rw[Y];exact g5,g6,g7⟩
 ·obtain⟨x2,q1,q2,q3⟩:=I x G;obtain⟨y2,r1,r2,r3⟩:=I y hy;have e:=F.hok.inj x2 y2 z q1 r1 (by rw[←q2];exact hd) (by rw[←r2];exact he);rcases q3 with⟨rfl,rfl⟩|⟨rfl,q4,q5⟩<;>rcases r3 with⟨rfl,rfl⟩|⟨rfl,r4,r5⟩
  ·rfl
  ·exact absurd e.symm r5
  ·exact absurd e q5
  ·exact e
 ·obtain⟨y,q1,q2,_⟩:=I x G;exact F.mine y z q1 (by rw[←q2];exact hz)
 ·obtain⟨y,b0,M,rfl,h2,Y,h4⟩:=back _ b H;rcases h4 with⟨h4,_⟩|⟨rfl,_,_⟩
  ·exact absurd h4.symm (hc j)
  ·obtain⟨k1,k2,b1,k3,k4⟩:=F.keep j b0 M;refine⟨by rw[h2];exact k1,by rw[Y];exact k2,b1,k3,?_⟩;have:=zQ (nmF n m) b0;revert k4 this;cases b1<;>cases b0<;>simp[Blk.same,rnB]<;>omega
def mX (n m:Name) (σ:St):St:=⟨σ.s.map fun p=>(p.1,rn (nmF n m) p.2),σ.h.map fun p=>(if p.1=n then m else p.1,rnB (nmF n m) p.2)⟩
theorem aAI {n m:Name}:∀(l:List (Name×Blk)) (x:Name),aB l m=none→aB (l.map fun p=>(if p.1=n then m else p.1,rnB (nmF n m) p.2)) x =
  if x=m then(aB l n).map (rnB (nmF n m)) else if x=n then none else(aB l x).map (rnB (nmF n m))
 | [],x,_=>by simp[aB]
 | (i,b)::r,x,h=>by
  simp only[aB] at h;have hi:¬m=i:=fun e=>by rw[if_pos e] at h;cases h
  rw[if_neg hi] at h;have H:=aAI (n:=n) r x h;simp only[List.map_cons,aB];by_cases hin:i=n
  ·subst hin;by_cases G:x=m
   ·subst G;simp
   ·by_cases F:x=i
    ·subst F;rw[if_pos rfl,if_neg G,H,if_neg G];simp[G]
    ·rw[if_pos rfl,if_neg G,H,if_neg G,if_neg F,if_neg G,if_neg F,if_neg F]
  ·rw[if_neg hin];by_cases G:x=m
   ·subst G;rw[if_neg hi,H,if_pos rfl,if_pos rfl,if_neg (fun e=>hin e.symm)]
   ·by_cases F:x=i
    ·subst F;rw[if_pos rfl,if_neg G,if_neg hin,if_pos rfl];rfl
    ·rw[if_neg F,H,if_neg G,if_neg G,if_neg F]
def aGF (t:Nat) (σ:St) (N:St→Prop):Prop:=match look σ.s t with
 | .loc n _ _=>if n=.t t 0 then N σ else match aB σ.h (.t t 0) with
  |none=>bT (.t t 0) σ=true∧N (mX n (.t t 0) σ)
  |some _=>bT (.t t 0) (aW (.t t 0) σ)=true∧N (mX n (.t t 0) (aW (.t t 0) σ))
 |_=>N σ
theorem aCJ {σ:St}{N:St→Prop}{t:Nat}{n:Name} (L:n≠.t t 0) (J:bT (.t t 0) σ=true) (I:N (mX n (.t t 0) σ)) (G:OK C σ.f a w S ρ κ):cK C N a w:=by
 have F:=dI J;obtain⟨ρ',κ',H⟩:=G.rename (n:=n) (m:=.t t 0) L F.1.1 (fun j=>by simp);refine⟨_,S,ρ',κ',I,?_⟩
 have e:(⟨fun u=>rn (nmF n (.t t 0)) (σ.f.s u),fun x=>if x=.t t 0 then(σ.f.h n).map (rnB (nmF n (.t t 0))) else if x=n then none else(σ.f.h x).map (rnB (nmF n (.t t 0)))⟩:FSt)=(mX n (.t t 0) σ).f:=by
  simp only[St.f,mX,FSt.mk.injEq];refine⟨funext fun u=>(mM _ (by simp[rn]) _ u).symm,funext fun x=>(aAI _ x F.1.1).symm⟩
 rw[e] at H;exact H
theorem aFC {σ:St}{N:St→Prop}{t:Nat} (F:aGF t σ N) (G:OK C σ.f a w S ρ κ):cK C N a w:=by
 unfold aGF at F;split at F
 ·rename_i n lo m J;split at F
  ·exact⟨σ,S,ρ,κ,F,G⟩
  ·rename_i I;split at F
   ·exact aCJ I F.1 F.2 G
   ·have H:=G.kill (.t t 0);rw[←nX] at H;exact aCJ I F.1 F.2 H
 ·exact⟨σ,S,ρ,κ,F,G⟩
end
section
variable [Envs]
variable {P:Program}{C:Ctx}{a:Act}{w:World}{S:Nat→Prop}{ρ:Name→Option Nat}{κ:Name→Nat}
def vc (P:Program) (K:St→Prop):List aJ→St→Prop
 | [],σ=>K σ
 | o::r,σ=>match o.guard with
  |none=>bG P o.dst σ (vc P K r) o.op
  | some (g,want)=>match look σ.s g with
   |.v (.bool b)=>BrW b want (bG P o.dst σ (vc P K r) o.op) (vc P K r ⟨put o.dst (.v (.tuple #[])) σ.s,σ.h⟩)
   |.v (.tuple _)=>vc P K r ⟨put o.dst (.v (.tuple #[])) σ.s,σ.h⟩
   |_=>False
def aJ.bare (o:aJ):aJ:={o with op:=o.op.bare}
def mU (P:Program) (nt:Nat) (ops:Array Oper) (o:Oper):Option aJ:=
 match comp P o.op with
 |none=>none
 | some op=>if o.dst.all (fun d=>decide (d<nt)) then
   match o.guard with
   |none=>some ⟨o.dst,op,none⟩
   | some (j,want)=>match(ops[j]?).bind (·.dst) with
    |some t=>some ⟨o.dst,op,some (t,want)⟩
    |none=>none
  else none
theorem iT {nt:Nat}{ops:Array Oper}{o:Oper}{ao:aJ} (h:mU P nt ops o=some ao.bare):comp P o.op=some ao.op.bare∧o.dst=ao.dst∧(∀d,o.dst=some d→d<nt)∧
  ((o.guard=none∧ao.guard=none)∨∃j F t,o.guard=some (j,F)∧ao.guard=some (t,F)∧(ops[j]?).bind (·.dst)=some t):=by
 unfold mU at h;split at h
 ·cases h
 ·rename_i op I;split at h
  ·rename_i M
   have H:∀d,o.dst=some d→d<nt:=by
    intro d G;rw[G] at M;simpa using M
   split at h
   ·rename_i L;simp only[Option.some.injEq,aJ.bare,aJ.mk.injEq] at h;obtain⟨G,h2,J⟩:=h;exact⟨by rw[I,h2],G,H,.inl ⟨L,J.symm⟩⟩
   ·rename_i j F L;split at h
    ·rename_i t O;simp only[Option.some.injEq,aJ.bare,aJ.mk.injEq] at h;obtain⟨G,h2,J⟩:=h;exact⟨by rw[I,h2],G,H,.inr ⟨j,F,t,L,J.symm,O⟩⟩
    ·cases h
  ·cases h
theorem xB {σ:St}{ops:Array Oper}{o:Oper}{j t:Nat}{F b:Bool} (H:OK C σ.f a w S ρ κ) (J:o.guard=some (j,F)) (M:(ops[j]?).bind (·.dst)=some t) (L:look σ.s t=.v (.bool b)) :
  Region.wanted o (yielded ops a.tmps)=(b==F):=by
 have I:=H.slots t;simp only[St.f] at I;rw[L] at I;have G:=bM I
 have:a.tmps[t]? = some (.bool b):=by
  cases hx:a.tmps[t]? with
  | none =>
   have:a.tmps.getD t undef=undef:=by simp[hx]
   rw[this] at G;simp[undef] at G
  | some u =>
   have:a.tmps.getD t undef=u:=by simp[hx]
   rw[this] at G;rw[G]
 simp[Region.wanted,J,yielded,M,this]
theorem xA {σ:St}{ops:Array Oper}{o:Oper}{j t:Nat}{F:Bool}{cs:Array Value} (G:OK C σ.f a w S ρ κ) (I:o.guard=some (j,F)) (J:(ops[j]?).bind (·.dst)=some t) (M:look σ.s t=.v (.tuple cs)) :
  Region.wanted o (yielded ops a.tmps)=false:=by
 have H:=G.slots t;simp only[St.f] at H;rw[M] at H;have L:=bM H;cases hx:a.tmps[t]? with
 |none=>simp[Region.wanted,I,yielded,J,hx]
 | some u =>
  have:a.tmps.getD t undef=u:=by simp[hx]
  rw[this] at L;subst L;simp[Region.wanted,I,yielded,J,hx]
theorem aCG {ops:Array Oper}{Q:Exit→Act→World→Prop}{K:St→Prop} (hQ:∀a w,cK C K a w→Q .normal a w):∀(G:List aJ) (k:Nat),(∀j ao,G[j]? = some ao→∃o,ops[k+j]? = some o∧mU P C.nt ops o=some ao.bare)→
  ∀(σ:St) (a:Act) (w:World) (S:Nat→Prop) (ρ:Name→Option Nat) (κ:Name→Nat),vc P K G σ→OK C σ.f a w S ρ κ→wpOps P ops Q (List.range' k G.length) a w
 | [],k,_,σ,a,w,S,ρ,κ,hv,hok=>hQ a w ⟨σ,S,ρ,κ,hv,hok⟩
 | ao::r,k,hs,σ,a,w,S,ρ,κ,hv,hok=>by
  obtain⟨o,ho,hc⟩:=hs 0 ao (by simp);simp only[Nat.add_zero] at ho;obtain⟨h1,h2,M,h4⟩:=iT hc;rw[List.length_cons,List.range'_succ,wpOps_cons]
  have ih:=aCG hQ r (k+1) (fun j L hj=>by
    obtain⟨o',I,J⟩:=hs (j+1) L (by simpa using hj);exact⟨o',by rw[show k+1+j=k+(j+1) by omega];exact I,J⟩)
  have go:bG P ao.dst σ (vc P K r) ao.op→o.wp P a w (wpOps P ops Q (List.range' (k+1) r.length)) Q:=fun U =>
   Oper.wp_mono (fun a' w' ⟨σ',S',ρ',κ',hK,hok'⟩=>ih σ' a' w' S' ρ' κ' hK hok') (uO (P:=P) h1 hok M (by rw[h2];exact U))
  unfold wpOp;rw[ho];simp only[vc] at hv;rcases h4 with⟨I,J⟩|⟨j,F,t,I,J,g3⟩
  ·rw[J] at hv;have:Region.wanted o (yielded ops a.tmps)=true:=by simp[Region.wanted,I]
   simp only[this,if_true];exact .inl (go hv)
  ·rw[J] at hv;simp only at hv;split at hv
   ·rename_i b O;have Y:=xB hok I g3 O;simp only[Y];by_cases H:b=F
    ·simp only[H,beq_self_eq_true,if_true];exact .inl (go ((jR.1 hv).1 H))
    ·have:(b==F)=false:=by simpa using H
     simp only[this,Bool.false_eq_true,if_false];have hn:b = !F:=by cases b<;>cases F<;>simp_all
     refine ih _ _ _ S ρ κ ((jR.1 hv).2 hn) ?_;have:=hok.put (x:=.v undef) (v:=undef) (.clo (.v _)) M;rw[h2] at this⊢;simpa[St.f,jX,undef] using this
   ·rename_i cs O;have Y:=xA hok I g3 O;simp only[Y,Bool.false_eq_true,if_false];refine ih _ _ _ S ρ κ hv ?_;have:=hok.put (x:=.v undef) (v:=undef) (.clo (.v _)) M;rw[h2] at this⊢;simpa[St.f,jX,undef] using this
   ·exact hv.elim
/-! ## code -/
inductive sG where
 |ret
 |exit (i:Nat)
inductive aF where
 |skip
 |region (ops:List aJ) (out:List Nat) (fl:List Nat)
 |seq (x y:aF)
 |cond (c:Operand) (x y:aF)
 |block (id:Nat) (c:aF)
 |loop (c:aF)
 |exit (id:Nat)
 |ret
 |closing (t:Nat) (c:aF)
 |naming (t:Nat) (c:aF)
def aAb (s:List (Nat×AV)):List Nat→List (Nat×AV)
 | []=>[]
 |t::r=>(t,look s t)::aAb s r
theorem aCM (s:List (Nat×AV)):∀(l:List Nat) (t:Nat),look (aAb s l) t=look s t∨look (aAb s l) t=.junk
 | [],t=>.inr rfl
 | i::r,t=>by
  simp only[aAb,look];split
  ·subst_vars;exact .inl rfl
  ·exact aCM s r t
theorem OK.less {σ σ':FSt} (F:OK C σ a w S ρ κ) (Y:∀t,σ'.s t=σ.s t∨σ'.s t=.junk) (hh:∀n b,σ'.h n=some b→σ.h n=some b):OK C σ' a w S ρ κ:=by
 have J:∀m,fC ρ ρ κ κ σ.h σ'.h m:=fun m b H=>⟨rfl,rfl,b,hh m b H,b.same_refl⟩
 have G:∀m,(σ'.h m).isSome→(σ.h m).isSome:=by
  intro m U;obtain⟨b,H⟩:=Option.isSome_iff_exists.1 U;simp[hh m b H]
 refine⟨F.nt,F.defers,fun t=>?_,⟨fun m b H=>?_,fun m L y I h2 M O=>F.hok.inj m L y (G m I) (G L h2) M O,F.hok.dom,F.hok.env⟩,F.size,F.old,fun m y I h2=>F.mine m y (G m I) h2,F.S0,F.Snew,F.out,fun j b H=>F.keep j b (hh _ _ H)⟩
 ·rcases Y t with e|e
  ·rw[e];exact(F.slots t).mono (fun _ h=>h) (fun _ _=>rfl) fun m _=>J m
  ·rw[e];exact .junk _
 ·exact(F.hok.blk m b (hh m b H)).mono (fun _ h=>h) (fun _ _ h=>h) (fun _ _=>rfl) (fun _ _=>rfl) rfl rfl fun m _=>J m
def aAQ (P:Program) (nt:Nat) (ops:Array Oper):List Oper→Option (List aJ)
 | []=>some []
 | o::r=>match mU P nt ops o,aAQ P nt ops r with
  |some x,some l=>some (x::l)
  |_,_=>none
def bF (P:Program) (nt:Nat) (drawn:Nat→Array Oper→Option (List Nat)):Code→Option aF
 |.skip=>some .skip
 | .region _ ops draw=>match(if draw then drawn nt ops else some []) with
  |some fl=>(aAQ P nt ops ops.toList).map fun l=>.region l [] fl
  |none=>none
 | .seq x y=>match bF P nt drawn x,bF P nt drawn y with
  |some x,some y=>some (.seq x y)
  |_,_=>none
 | .cond c x y=>match bF P nt drawn x,bF P nt drawn y with
  |some x,some y=>some (.cond c x y)
  |_,_=>none
 |.block id x=>(bF P nt drawn x).map (.block id)
 |.loop x=>(bF P nt drawn x).map .loop
 |.exit id=>some (.exit id)
 |.ret=>some .ret
 |_=>none
def aF.bare:aF→aF
 |.region ops _ fl=>.region (ops.map aJ.bare) [] fl
 |.seq x y=>.seq x.bare y.bare
 |.cond c x y=>.cond c x.bare y.bare
 |.block id x=>.block id x.bare
 |.loop x=>.loop x.bare
 |.closing _ x=>x.bare
 |.naming _ x=>x.bare
 |c=>c
theorem kM {nt:Nat}{ops:Array Oper}:∀{l:List Oper}{r:List aJ},aAQ P nt ops l=some (r.map aJ.bare)→l.length=r.length∧∀(j:Nat) (ao:aJ),r[j]? = some ao→∃o,l[j]? = some o∧mU P nt ops o=some ao.bare
 | [],r,h=>by
  simp only[aAQ,Option.some.injEq] at h;have:r=[]:=by simpa using h.symm
  subst this;simp
 | o::l,r,h=>by
  simp only[aAQ] at h;split at h
  ·rename_i x L J h2;cases r with
   |nil=>simp at h
   | cons ao r =>
    simp only[List.map_cons,Option.some.injEq,List.cons.injEq] at h;obtain⟨rfl,rfl⟩:=h;obtain⟨H,I⟩:=kM h2;refine⟨by simp[H],fun j F G=>?_⟩;cases j with
    | zero =>
     simp only[List.getElem?_cons_zero,Option.some.injEq] at G;subst G;exact⟨o,by simp,J⟩
    |succ j=>simpa using I j F (by simpa using G)
  ·cases h
def aB8 (fl:List Nat) (ops:List aJ) (σ:St):Bool:=
 (fl.all fun d=>σ.s.all fun p=>!(p.1==d))&&ops.all fun o=>match o.op,o.dst with
  |.call _ _ bor,some d=>bor.isEmpty||!fl.contains d||fl.contains (d+2000000)
  |.bsliceC ..,some d=>!fl.contains d
  |.load ..,some d=>!fl.contains (d+1000000)
  |.fieldAddr ..,some d=>!fl.contains (d+1000000)
  |_,_=>true
def iU (P:Program) (drawn:Nat→Array Oper→Option (List Nat)):Prop:=
 ∀ (C:Ctx) (id:Nat) (ops:Array Oper) (aops:List aJ) (fl:List Nat) (K:St→Prop) (Q:Exit→Act→World→Prop) (σ:St) (a:Act) (w:World) (S:Nat→Prop) (ρ:Name→Option Nat) (κ:Name→Nat),
  drawn C.nt ops=some fl→aAQ P C.nt ops ops.toList=some (aops.map aJ.bare)→aB8 fl aops σ=true→(∀a w,cK C K a w→Q .normal a w)→vc P K aops σ→OK C σ.f a w S ρ κ→(Code.region id ops true).wp P Q a w
def SemW (P:Program) (C:Ctx) (drawn:Nat→Array Oper→Option (List Nat)) (ac:aF) (N:St→Prop) (E:sG→St→Prop) (σ:St):Prop:=
 ∀ (c:Code) (Q:Exit→Act→World→Prop) (a:Act) (w:World) (S:Nat→Prop) (ρ:Name→Option Nat) (κ:Name→Nat),bF P C.nt drawn c=some ac.bare→
  (∀a w,cK C N a w→Q .normal a w)→(∀i a w,cK C (E (.exit i)) a w→Q (.exit i) a w)→(∀a w,cK C (E .ret) a w→Q .ret a w)→OK C σ.f a w S ρ κ→c.wp P Q a w
def RgK (b:Bool) (A:Prop) (_:Tag (b,A)):Prop:=b=true∧A
theorem RgK.mk {b:Bool}{A:Prop}{t:Tag (b,A)} (F:b=true) (h2:A):RgK b A t:=⟨F,h2⟩
def aN (P:Program) (C:Ctx) (drawn:Nat→Array Oper→Option (List Nat)) (c:aF) (N:St→Prop) (E:sG→St→Prop) (σ:St) (_:Tag (N,E)):Prop:=SemW P C drawn (.loop c) N E σ
def wpc (P:Program) (C:Ctx) (drawn:Nat→Array Oper→Option (List Nat)):aF→(St→Prop)→(sG→St→Prop)→St→Prop
 |.skip,N,_,σ=>N σ
 | .region ops out fl,N,_,σ=>match fl with
  | []=>vc P (fun σ'=>N ⟨aAb σ'.s out,σ'.h⟩) ops σ
  |d::r=>RgK (aB8 (d::r) ops σ) (vc P (fun σ'=>N ⟨aAb σ'.s out,σ'.h⟩) ops σ) .x
 |.seq x y,N,E,σ=>wpc P C drawn x (wpc P C drawn y N E) E σ
 | .cond c x y,N,E,σ=>match evO (look σ.s) c with
  |.v (.bool b)=>Br b (wpc P C drawn x N E σ) (wpc P C drawn y N E σ) .x
  |_=>False
 | .block id x,N,E,σ=>wpc P C drawn x N (fun e σ'=>match e with
   |.exit i=>(i=id→N σ')∧(i≠id→E (.exit i) σ')
   |.ret=>E .ret σ') σ
 |.loop x,N,E,σ=>aN P C drawn x N E σ .x
 |.exit id,_,E,σ=>E (.exit id) σ
 |.ret,_,E,σ=>E .ret σ
 |.closing t x,N,E,σ=>wpc P C drawn x (fun σ'=>aDW t σ' N) E σ
 |.naming t x,N,E,σ=>wpc P C drawn x (fun σ'=>aGF t σ' N) E σ
theorem sM {J:Nat→Array Oper→Option (List Nat)} (hl:iU P J):∀(ac:aF) (N:St→Prop) (E:sG→St→Prop) (σ:St),wpc P C J ac N E σ→SemW P C J ac N E σ:=by
 intro ac
 induction ac with
 | skip =>
  intro N E σ I c Q a w S ρ κ F L M O G;cases c<;>simp[bF,aF.bare] at F
  case skip=>exact wp_skip (L a w ⟨σ,S,ρ,κ,I,G⟩)
  all_goals(first|(split at F<;>simp at F)|skip)
 | region ops out fl =>
  intro N E σ I c Q a w S ρ κ F L M O G
  have I:aB8 fl ops σ=true∧vc P (fun σ'=>N ⟨aAb σ'.s out,σ'.h⟩) ops σ:=by
   cases fl with
   | nil =>
    refine⟨?_,I⟩;simp only[aB8,List.all_nil,Bool.true_and,List.all_eq_true];intro o _;split<;>simp
   |cons d r=>exact I
  have he:∀a w,cK C (fun σ'=>N ⟨aAb σ'.s out,σ'.h⟩) a w→Q .normal a w:=by
   rintro a w ⟨σ',S',ρ',κ',hK,H⟩;exact L a w ⟨_,S',ρ',κ',hK,H.less (aCM _ _) (fun _ _ h=>h)⟩
  cases c
  case region id cops draw =>
   simp only[bF,aF.bare] at F;split at F
   ·rename_i hm hd;cases ho:aAQ P C.nt cops cops.toList with
    |none=>rw[ho] at F;cases F
    | some l =>
     rw[ho] at F;simp only[Option.map_some,Option.some.injEq,aF.region.injEq,true_and] at F;obtain⟨F,rfl⟩:=F;subst F;cases draw with
     | false =>
      obtain⟨g1,g2⟩:=kM ho;refine wp_region ?_
      have:=aCG (P:=P) he ops 0 (fun j ao hj=>by
        obtain⟨o,q1,q2⟩:=g2 j ao hj;exact⟨o,by simpa using q1,q2⟩) σ a w S ρ κ I.2 G
      rw[List.range_eq_range',show cops.size=ops.length by simpa using g1];exact this
     | true =>
      exact hl C id cops ops _ _ Q σ a w S ρ κ (by simpa using hd) ho I.1 he I.2 G
   ·cases F
  all_goals(simp only[bF,aF.bare] at F;first|(cases F;done)|(split at F<;>simp at F)|(simp at F))
 | seq x y ihx ihy =>
  intro N E σ I c Q a w S ρ κ F L M O G;cases c
  case seq cx cy =>
   simp only[bF,aF.bare] at F;split at F
   ·rename_i x' y' Y h2;simp only[Option.some.injEq,aF.seq.injEq] at F;obtain⟨rfl,rfl⟩:=F;refine wp_seq (ihx _ _ _ I cx _ a w S ρ κ Y (fun a w U=>?_) M O G);obtain⟨σ',S',ρ',κ',hK,H⟩:=U;exact ihy _ _ _ hK cy Q a w S' ρ' κ' h2 L M O H
   ·cases F
  all_goals(simp only[bF,aF.bare] at F;first|(cases F;done)|(split at F<;>simp at F)|(simp at F))
 | cond cc x y ihx ihy =>
  intro N E σ I c Q a w S ρ κ F L M O G;cases c
  case cond co cx cy =>
   simp only[bF,aF.bare] at F;split at F
   ·rename_i x' y' Y h2;simp only[Option.some.injEq,aF.cond.injEq] at F;obtain⟨rfl,rfl,rfl⟩:=F;simp only[wpc] at I;split at I
    ·rename_i b hb;have hk:=G.ev co;rw[show evO σ.f.s co=_ from hb] at hk;have hf:=bM hk;cases b
     ·exact wp_cond_false hf (ihy _ _ _ (I.get.2 rfl) cy Q a w S ρ κ h2 L M O G)
     ·exact wp_cond_true hf (ihx _ _ _ (I.get.1 rfl) cx Q a w S ρ κ Y L M O G)
    ·exact I.elim
   ·cases F
  all_goals(simp only[bF,aF.bare] at F;first|(cases F;done)|(split at F<;>simp at F)|(simp at F))
 | block id x ih =>
  intro N E σ I c Q a w S ρ κ F L M O G;cases c
  case block cid cx =>
   simp only[bF,aF.bare] at F;cases Y:bF P C.nt J cx with
   |none=>rw[Y] at F;cases F
   | some x' =>
    rw[Y] at F;simp only[Option.map_some,Option.some.injEq,aF.block.injEq] at F;obtain⟨rfl,rfl⟩:=F;refine wp_block (ih _ _ _ I cx _ a w S ρ κ Y (fun a w U=>L a w U) (fun i a w U=>?_) (fun a w U=>O a w U) G);obtain⟨σ',S',ρ',κ',hK,H⟩:=U;simp only[Exit.inBlock];by_cases hi:i=cid
    ·rw[if_pos hi];exact L a w ⟨σ',S',ρ',κ',hK.1 hi,H⟩
    ·rw[if_neg hi];exact M i a w ⟨σ',S',ρ',κ',hK.2 hi,H⟩
  all_goals(simp only[bF,aF.bare] at F;first|(cases F;done)|(split at F<;>simp at F)|(simp at F))
 |loop x ih=>intro N E σ I;exact I
 | exit id =>
  intro N E σ I c Q a w S ρ κ F L M O G;cases c
  case exit cid =>
   simp only[bF,aF.bare,Option.some.injEq,aF.exit.injEq] at F;subst F;exact wp_exit (M _ a w ⟨σ,S,ρ,κ,I,G⟩)
  all_goals(simp only[bF,aF.bare] at F;first|(cases F;done)|(split at F<;>simp at F)|(simp at F))
 | ret =>
  intro N E σ I c Q a w S ρ κ F L M O G;cases c
  case ret=>exact wp_ret (O a w ⟨σ,S,ρ,κ,I,G⟩)
  all_goals(simp only[bF,aF.bare] at F;first|(cases F;done)|(split at F<;>simp at F)|(simp at F))
 | closing t x ih =>
  intro N E σ I c Q a w S ρ κ F L M O G;refine ih _ _ _ I c Q a w S ρ κ F (fun a' w' U=>?_) M O G;obtain⟨σ',S',ρ',κ',ha,H⟩:=U;exact L a' w' (aE7 ha H)
 | naming t x ih =>
  intro N E σ I c Q a w S ρ κ F L M O G;refine ih _ _ _ I c Q a w S ρ κ F (fun a' w' U=>?_) M O G;obtain⟨σ',S',ρ',κ',ha,H⟩:=U;exact L a' w' (aFC ha H)
def LeL (σ σ':St):Prop:=(∀p,p∈σ'.s→look σ.s p.1=p.2∨p.2=.junk)∧∀p,p∈σ'.h→aB σ.h p.1=some p.2
theorem OK.le {σ σ':St} (F:OK C σ.f a w S ρ κ) (h:LeL σ σ'):OK C σ'.f a w S ρ κ:=by
 refine F.less (fun t=>?_) (fun n b I=>h.2 _ (nT _ _ _ I))
 have G:∀(l:List (Nat×AV)),(∀p,p∈l→look σ.s p.1=p.2∨p.2=.junk)→look l t=look σ.s t∨look l t=.junk:=by
  intro l
  induction l with
  |nil=>intro _;exact .inr rfl
  | cons p r ih =>
   intro H;obtain⟨i,x⟩:=p;simp only[look];split
   ·rcases H (i,x) (by simp) with h|h
    ·subst_vars;exact .inl h.symm
    ·exact .inr h
   ·exact ih fun q J=>H q (by simp[J])
 exact G σ'.s h.1
theorem least (p:Nat→Prop) (h:∃n,p n):∃n,p n∧∀m,p m→n≤m:=by
 classical
 obtain⟨n,I⟩:=h
 induction n using Nat.strongRecOn with
 | ind n ih =>
  by_cases H:∃m,m<n∧p m
  ·obtain⟨m,F,G⟩:=H;exact ih m F G
  ·refine⟨n,I,fun m G=>?_⟩;apply Nat.le_of_not_lt;intro F;exact H ⟨m,F,G⟩
theorem aN.intro {F:Nat→Array Oper→Option (List Nat)} (hb:iU P F) {X:Type} (H:X→St) (μ:X→Nat) (x0:X) {c:aF}{N:St→Prop}{E:sG→St→Prop}{σ:St}{tg:Tag (N,E)} (h0:LeL σ (H x0))
  (hr:∀x,wpc P C F c (fun σ'=>∃L,LeL σ' (H L)∧μ L<μ x) E (H x)):aN P C F c N E σ tg:=by
 show SemW P C F (.loop c) N E σ
 intro O Q a w S ρ κ I hN hE hR he;cases O
 case loop cx =>
  simp only[bF,aF.bare] at I;cases h1:bF P C.nt F cx with
  |none=>rw[h1] at I;cases I
  | some L =>
   rw[h1] at I;simp only[Option.map_some,Option.some.injEq,aF.loop.injEq] at I;subst I
   classical
   let G:Act→World→Prop:=fun a w=>∃x S ρ κ,OK C (H x).f a w S ρ κ
   let m:Act→World→Nat:=fun a w=>if h:∃n x,μ x=n∧∃S ρ κ,OK C (H x).f a w S ρ κ then(least _ h).choose else 0
   refine wp_loop G m ⟨x0,S,ρ,κ,he.le h0⟩ ?_;rintro a w hG
   have U:∃n x,μ x=n∧∃S ρ κ,OK C (H x).f a w S ρ κ:=by
    obtain⟨x,S,ρ,κ,h⟩:=hG;exact⟨μ x,x,rfl,S,ρ,κ,h⟩
   obtain⟨x,hx,S,ρ,κ,ha⟩:=(least _ U).choose_spec.1;have hm:m a w=μ x:=by simp only[m,dif_pos U];exact hx.symm
   refine sM hb c _ _ _ (hr x) cx _ a w S ρ κ h1 (fun a' w' hg=>?_) hE hR ha;obtain⟨σ',S',ρ',κ',⟨L,hd,hf⟩,Y⟩:=hg;have J:=Y.le hd;refine⟨⟨L,S',ρ',κ',J⟩,?_⟩;have M:∃n x,μ x=n∧∃S ρ κ,OK C (H x).f a' w' S ρ κ:=⟨μ L,L,rfl,S',ρ',κ',J⟩
   have:m a' w'≤μ L:=by
    simp only[m,dif_pos M];exact(least _ M).choose_spec.2 _ ⟨L,rfl,S',ρ',κ',J⟩
   omega
 all_goals(simp only[bF,aF.bare] at I;first|(cases I;done)|(split at I<;>simp at I)|(simp at I))
end
section
variable [Envs]
variable {P:Program}{C:Ctx}{a:Act}{w:World}{S:Nat→Prop}{ρ:Name→Option Nat}{κ:Name→Nat}{h:Name→Option Blk}
theorem aCL (I:HOK S w ρ κ h) {S':Nat→Prop} (hS:∀b,S b→S' b) {E:List Name}{ρ':Name→Option Nat}{κ':Name→Nat}{h':Name→Option Blk}
  (hE:∀j n,E[j]? = some n→ρ' (.b j)=ρ n∧κ' (.b j)=κ n∧∀J,h' (.b j)=some J→∃b,h n=some b∧b.same J) {c:Bool}
  {cs H:List AV}{L:List Name}{vs:Array Value} (G:eO (conv h 8 E c) cs=some (H,L)) (hL:∀n,n∈L→∀y,ρ n=some y→S' y) (hr:∀j,j<cs.length→RV S w ρ κ h (cs.getD j .junk) (vs.getD j undef)) :
  ∀n,n∈L→n∉E∧(h n).isSome:=by
 intro n hn;obtain⟨j,O,Lj,M,Y⟩:=zZ G n hn;obtain⟨U,F,g3⟩:=(gD G).2 j O;rw[M] at F;simp only[Option.some.injEq,Prod.mk.injEq,true_and] at F;subst F;exact(nV I hS hE 8 c _ _ _ _ M (fun m G=>hL m (g3 m G)) (hr j O)).2.2 n Y
theorem aEX (J:HOK S w ρ κ h) {B:List Name} (hr:B.Nodup) {x y:AV}{v:Value}{F:List Blk}{L1 L2:List Name} (hx:RV S w ρ κ h x v)
  (hc:conv h 8 B false x=some (y,L1)) (h7:vI h B B=some (F,L2)) :
  ∃ (S':Nat→Prop) (ρ':Name→Option Nat) (κ':Name→Nat),HOK S' w ρ' κ' (Hn (F.map some))∧RV S' w ρ' κ' (Hn (F.map some)) y v∧(∀b,S b→S' b)∧
   (∀b,S' b→S b∨∃n,(h n).isSome∧ρ n=some b)∧(∀j z,(((F.map some).getD j none).isSome)→ρ' (.b j)=some z→∃n,(h n).isSome∧ρ n=some z)∧
   ∀j n,B[j]? = some n→ρ' (.b j)=ρ n∧κ' (.b j)=κ n∧∀M,Hn (F.map some) (.b j)=some M→∃b,h n=some b∧b.same M:=by
 obtain⟨h5,hg,h6⟩:=vE _ _ h7
 let L:=L1++L2
 let S1:Nat→Prop:=fun y=>S y∨∃n,n∈L∧ρ n=some y
 let ρ0:Name→Option Nat:=fun m=>match m with|.b j=>(B[j]?).bind ρ|.t _ _=>none
 let κ0:Name→Nat:=fun m=>match m with|.b j=>((B[j]?).map κ).getD 0|.t _ _=>0
 have ha:∀y,S y→S1 y:=fun y hy=>.inl hy;have ho:∀n,n∈L1→n∈L:=fun n Y=>List.mem_append_left _ Y;have hp:∀n,n∈L2→n∈L:=fun n Y=>List.mem_append_right _ Y
 have hE:∀j n,B[j]? = some n→ρ0 (.b j)=ρ n∧κ0 (.b j)=κ n∧∀M,Hn (F.map some) (.b j)=some M→∃b,h n=some b∧b.same M:=by
  intro j n hj;refine⟨by simp[ρ0,hj],by simp[κ0,hj],fun M I=>?_⟩;obtain⟨b,b2,Lj,O,G,g3,_,_⟩:=hg j n hj
  have:M=b2:=by
   simp only[Hn,List.getD,List.getElem?_map,g3,Option.map_some,Option.getD_some,Option.some.injEq] at I;exact I.symm
  subst this;refine⟨b,O,?_⟩;cases b with
  | var c z =>
   simp only[eU] at G;cases H:eO (conv h 8 B false) c with
   |none=>rw[H] at G;cases G
   | some p =>
    rw[H] at G;simp only[Option.map_some,Option.some.injEq,Prod.mk.injEq] at G;rw[←G.1];exact((gD H).1).symm
  | arr k l z =>
   simp only[eU,Option.some.injEq,Prod.mk.injEq] at G;rw[←G.1];exact Blk.same_refl _
 have hf:∀m,m∈L→∀y,ρ m=some y→S1 y:=fun m H y hy=>.inr ⟨m,H,hy⟩;have hd:=nV J ha (κ':=κ0) hE 8
 have U:∀n,n∈L→n∉B∧(h n).isSome:=by
  intro n Y;rcases List.mem_append.1 Y with Y|Y
  ·exact(hd false _ _ _ _ hc (fun m H=>hf m (ho m H)) hx).2.2 n Y
  ·obtain⟨n',b,M,Lj,O,G,g3,g4⟩:=h6 n Y;cases b with
   | arr k l z =>
    simp only[eU,Option.some.injEq,Prod.mk.injEq] at g3;rw[←g3.2] at g4;simp at g4
   | var c z =>
    simp only[eU] at g3;cases H:eO (conv h 8 B false) c with
    |none=>rw[H] at g3;cases g3
    | some p =>
     obtain⟨c',Lp⟩:=p;rw[H] at g3;simp only[Option.map_some,Option.some.injEq,Prod.mk.injEq] at g3;obtain⟨_,rfl⟩:=g3;obtain⟨x,cs,T,fr,q1,q2,q3,q4,_,q5,q6,q7⟩:=J.blk n' _ G;obtain⟨i,hi⟩:=List.mem_iff_getElem?.1 O;obtain⟨b1,b2,Lb,p1,p2,p3,p4,p5⟩:=hg i n' hi;rw[G] at p1;obtain rfl:=Option.some.inj p1;simp only[eU,H,Option.map_some,Option.some.injEq,Prod.mk.injEq] at p2;obtain⟨_,rfl⟩:=p2;exact aCL J ha (κ':=κ0) hE H (fun m H=>hf m (hp m (p5 m H))) (fun j hj=>(q7 j hj).2) n g4
 have hv:∀n b,n∈B→h n=some b→b.fz=false→∀x,ρ n=some x→¬S1 x:=by
  rintro n b Y hb hz x hx (hs|⟨m,H,hmx⟩)
  ·have:=J.blk n b hb;cases b with
   | var c z =>
    obtain⟨y,_,_,_,O,_,_,G,_⟩:=this;obtain rfl:=Option.some.inj (hx.symm.trans O);exact G hz hs
   | arr k l z =>
    obtain⟨_,⟨O,_⟩|⟨y,_,_,_,O,_,_,G,_⟩⟩:=this
    ·rw[hx] at O;cases O
    ·obtain rfl:=Option.some.inj (hx.symm.trans O);exact G hz hs
  ·have:=J.inj m n x (U m H).2 (by simp[hb]) hmx hx;subst this;exact(U m H).1 Y
 have he:∀j M,Hn (F.map some) (.b j)=some M→∃n b Lj,B[j]? = some n∧h n=some b∧eU h B b=some (M,Lj)∧(∀m,m∈Lj→m∈L2)∧M.fz=false:=by
  intro j M I
  have hj:j<B.length:=by
   rw[←h5];rcases Nat.lt_or_ge j F.length with h'|h'
   ·exact h'
   ·simp[Hn,List.getD,List.getElem?_eq_none h'] at I
  obtain⟨b,b2,Lj,O,G,g3,g4,g5⟩:=hg j B[j] (by simp[hj])
  have:M=b2:=by
   simp only[Hn,List.getD,List.getElem?_map,g3,Option.map_some,Option.getD_some,Option.some.injEq] at I;exact I.symm
  subst this;exact⟨B[j],b,Lj,by simp[hj],O,G,g5,g4⟩
 have ht:HOK S1 w ρ0 κ0 (Hn (F.map some)):=by
  refine⟨fun m M I=>?_,fun m m' x h1 h2 h3 h4=>?_,?_,J.env.mono ha fun _ _=>rfl⟩
  ·cases m with
   |t=>simp[Hn] at I
   | b j =>
    obtain⟨n,b,Lj,g0,O,G,g5,g4⟩:=he j M I;obtain⟨e1,e2,_⟩:=hE j n g0;have hb:=J.blk n b O;have hq:=hv n b (List.mem_of_getElem? g0) O;cases b with
    | var c z =>
     simp only[eU] at G;cases H:eO (conv h 8 B false) c with
     |none=>rw[H] at G;cases G
     | some p =>
      obtain⟨c',Lp⟩:=p;rw[H] at G;simp only[Option.map_some,Option.some.injEq,Prod.mk.injEq] at G;obtain⟨rfl,rfl⟩:=G;obtain⟨x,cs,T,fr,q1,q2,q3,q4,hk,q5,q6,q7⟩:=hb;obtain⟨l1,l2⟩:=gD H;refine⟨x,cs,T,fr,by rw[e1];exact q1,q2,q3,fun hz=>hq hz x q1,fun hz=>.inl (hk hz),by rw[e2];exact q5,by omega,fun i hi=>⟨(q7 i (by omega)).1,?_⟩⟩;obtain⟨Li,l3,l4⟩:=l2 i (by omega);exact(hd false _ _ _ _ l3 (fun m H=>hf m (hp m (g5 m (l4 m H)))) (q7 i (by omega)).2).1 rfl
    | arr k l z =>
     simp only[eU,Option.some.injEq,Prod.mk.injEq] at G;obtain⟨rfl,rfl⟩:=G;obtain⟨q0,⟨q1,q2⟩|⟨x,cs,T,fr,q1,q2,q3,q4,hk,q5,q6,q7⟩⟩:=hb
     ·exact⟨q0,.inl ⟨by rw[e1];exact q1,q2⟩⟩
     ·exact⟨q0,.inr ⟨x,cs,T,fr,by rw[e1];exact q1,q2,q3,fun hz=>hq hz x q1,fun hz=>.inl (hk hz),by rw[e2];exact q5,q6,fun i j hi hj=>⟨(q7 i j hi hj).1,(q7 i j hi hj).2.mono ha fun _ _=>rfl⟩⟩⟩
  ·cases m with
   |t=>simp[Hn] at h1
   | b j =>
    cases m' with
    |t=>simp[Hn] at h2
    | b j' =>
     obtain⟨b1,hw⟩:=Option.isSome_iff_exists.1 h1;obtain⟨b2,h0⟩:=Option.isSome_iff_exists.1 h2;obtain⟨n,b,_,g0,O,_⟩:=he j b1 hw;obtain⟨n',M,_,hl,hu,_⟩:=he j' b2 h0;rw[(hE j n g0).1] at h3;rw[(hE j' n' hl).1] at h4;obtain rfl:=J.inj n n' x (by simp[O]) (by simp[hu]) h3 h4;congr 1;have e1:=oK hr g0;have e2:=oK hr hl;rw[e1] at e2;exact Option.some.inj e2
  ·rintro y (hy|⟨n,Y,hy⟩)
   ·exact J.dom y hy
   ·exact J.lt (U n Y).2 hy
 refine⟨S1,ρ0,κ0,ht,(hd false _ _ _ _ hc (fun m H=>hf m (ho m H)) hx).1 rfl,ha,?_,?_,hE⟩
 ·rintro b (hb|⟨n,Y,hb⟩)
  ·exact .inl hb
  ·exact .inr ⟨n,(U n Y).2,hb⟩
 ·intro j z hj hz;obtain⟨M,I⟩:=Option.isSome_iff_exists.1 hj;obtain⟨n,b,_,g0,O,_⟩:=he j M I;rw[(hE j n g0).1] at hz;exact⟨n,by simp[O],hz⟩
/-! ## what a function hands back -/
def aEq (P:Program) (σ:St) (K:AV→Prop):ResultVar→Prop
 |.tmp t=>K (look σ.s t)
 | .cell A T=>match uU P T with
  |some (g,k)=>rd (evO (look σ.s)) (aB σ.h) K (.load g k (.tmp A))
  |none=>False
def rR (P:Program) (σ:St) (K:List AV→Prop):List ResultVar→Prop
 | []=>K []
 |r::rs=>aEq P σ (fun x=>rR P σ (fun xs=>K (x::xs)) rs) r
def oJ:List AV→AV
 | [x]=>x
 |l=>.tup l
def aBc (P:Program) (rs:List ResultVar) (B:List Name) (r:AV) (hout:List Blk) (σ:St):Prop:=
 rR P σ (fun xs=>∃L1 L2,conv (aB σ.h) 8 B false (oJ xs)=some (r,L1)∧vI (aB σ.h) B B=some (hout,L2)) rs
def aFw (tmps:Array Value):ResultVar→Sem Value
 |.tmp t=>pure (tmps.getD t undef)
 |.cell A T=>do loadVar T (←asAddr (tmps.getD A undef))
theorem aIC {σ:St}{K:AV→Prop} (H:OK C σ.f a w S ρ κ) {r:ResultVar} (h:aEq P σ K r) :
  ∃x v,K x∧RV S w ρ κ σ.f.h x v∧(aFw a.tmps r).run P w=.ok v w:=by
 cases r with
 |tmp t=>exact⟨_,_,h,H.slots t,by simp[aFw]⟩
 | cell A T =>
  simp only[aEq] at h;split at h
  ·rename_i g k O;obtain⟨x,v,L,F,U⟩:=aGB H O h;refine⟨x,v,L,U,?_⟩;simp only[aFw];have e:a.eval (.tmp A)=a.tmps.getD A undef:=rfl;rw[e] at F;simp only[Instr.loadAt,Sem.run_bind] at F;simp only[rd] at h;have G:=H.ev (.tmp A);rw[e] at G;generalize a.tmps.getD A undef=va at G F⊢;split at h
   ·rename_i c I;rw[show evO σ.f.s (.tmp A)=_ from I] at G;cases pF G with
    | ro _ b off xs _ _ _ _ =>
     simp only[Sem.run_bind,asAddr,Instr.sureAddr,Sem.run_pure,Result.andThen_ok] at F⊢;exact F
   ·rename_i n Y c I;rw[show evO σ.f.s (.tmp A)=_ from I] at G;split at h
    ·rename_i b M;obtain⟨y,hy,J⟩:=eD G b M;rw[J] at F⊢;simp only[Sem.run_bind,asAddr,Instr.sureAddr,Sem.run_pure,Result.andThen_ok] at F⊢;exact F
    ·exact h.elim
   ·exact h.elim
  ·exact h.elim
theorem aEr {σ:St} (F:OK C σ.f a w S ρ κ):∀{rs:List ResultVar}{K:List AV→Prop},rR P σ K rs→
  ∃ xs vs,K xs∧vs.length=xs.length∧(∀j,j<xs.length→RV S w ρ κ σ.f.h (xs.getD j .junk) (vs.getD j undef))∧
   (rs.mapM (aFw a.tmps)).run P w=.ok vs w
 | [],K,h=>⟨[],[],h,rfl,by simp,by simp⟩
 | r::rs,K,h=>by
  obtain⟨x,v,G,h2,H⟩:=aIC F h;obtain⟨xs,vs,I,J,L,M⟩:=aEr F G;refine⟨x::xs,v::vs,I,by simp[J],fun j O=>?_,?_⟩
  ·cases j with
   |zero=>simpa using h2
   |succ j=>simpa using L j (by simpa using O)
  ·simp only[List.mapM_cons,Sem.run_bind,H,Result.andThen_ok,M,Sem.run_pure]
theorem uR {σ:St} (G:OK C σ.f a w S ρ κ) {fn:Func}{K:AV→Prop} (h:rR P σ (fun xs=>K (oJ xs)) fn.results.toList) :
  ∃x v,K x∧RV S w ρ κ σ.f.h x v∧(results fn a.tmps).run P w=.ok v w:=by
 obtain⟨xs,vs,H,h2,F,I⟩:=aEr G h
 have M:(results fn a.tmps).run P w=.ok (if h:vs.toArray.size=1 then vs.toArray[0] else .tuple vs.toArray) w:=by
  have L:fn.results.mapM (aFw a.tmps)=(do pure (←fn.results.toList.mapM (aFw a.tmps)).toArray):=by
   rw[←Array.toArray_toList (xs:=fn.results),List.mapM_toArray];rfl
  change (do let vs ←fn.results.mapM (aFw a.tmps);pure (if h:vs.size=1 then vs[0] else .tuple vs):Sem Value).run P w=_
  rw[L];simp only[Sem.run_bind,I,Result.andThen_ok,Sem.run_pure]
 refine⟨_,_,H,?_,M⟩
 match xs,vs,h2,F with
 | [x],[v],_,F=>simpa[oJ] using F 0 (by simp)
 | [],[],_,F=>exact .tup _ _ rfl (by simp)
 |x::x'::r,v::v'::r',h2,F=>exact .tup _ _ (by simpa using h2.symm) fun j J=>by simpa using F j J
def ini:Nat→List AV→List (Nat×AV)
 |_,[]=>[]
 |i,x::r=>(i,x)::ini (i+1) r
theorem z8:∀(l:List AV) (i t:Nat),look (ini i l) t=if i≤t∧t<i+l.length then l.getD (t-i) .junk else .junk
 | [],i,t=>by simp[ini,look]
 | x::r,i,t=>by
  simp only[ini,look,z8 r (i+1) t,List.length_cons];by_cases G:t=i
  ·subst G;simp
  ·simp only[G,if_false];by_cases h2:i+1≤t∧t<i+1+r.length
   ·have F:i≤t∧t<i+(r.length+1):=by omega
    simp only[h2,F,if_true,and_self];rw[show t-i=(t-(i+1))+1 by omega];simp
   ·have F:¬(i≤t∧t<i+(r.length+1)):=by omega
    simp only[h2,F,if_false]
def aAF:Nat→List Blk→List (Name×Blk)
 |_,[]=>[]
 |i,b::r=>(.b i,b)::aAF (i+1) r
theorem aAd (d j:Nat):∀(l:List Blk) (i:Nat),aB (aAF i l) (.t d j)=none
 | [],i=>rfl
 |b::r,i=>by simp[aAF,aB,aAd d j r]
theorem aAe (j:Nat):∀(l:List Blk) (i:Nat),aB (aAF i l) (.b j)=if i≤j then l[j-i]? else none
 | [],i=>by simp[aAF,aB]
 | b::r,i=>by
  simp only[aAF,aB,Name.b.injEq,aAe j r];by_cases h:j=i
  ·subst h;simp
  ·by_cases h2:i≤j
   ·have F:i+1≤j:=by omega
    simp only[h,h2,F,if_true,if_false];rw[show j-i=(j-(i+1))+1 by omega];simp
   ·have F:¬i+1≤j:=by omega
    simp[h,h2,F]
theorem kD (l:List Blk):aB (aAF 0 l)=Hn (l.map some):=by
 funext n
 cases n with
 |t d j=>rw[aAd];rfl
 | b j =>
  rw[aAe];simp only[Nat.zero_le,if_true,Nat.sub_zero,Hn,List.getD,List.getElem?_map];cases l[j]?<;>rfl
theorem Fn.intro {H:Nat→Array Oper→Option (List Nat)}{f:FuncId}{fn:Func} (hd:iU P H) {I:Code}{ac:aF}{hin:List Blk}{args:List AV}{r:AV}{F:List Blk} (B:List Name)
  (hf:P.funcs[f]? = some fn) (G:fn.body=some I) (M:fn.name≠"runtime.NumGoroutine") (hc:bF P fn.ntmps H I=some ac.bare) (ho:args.length≤fn.ntmps) (hk:B.Nodup)
  (hB:∀j,j<hin.length→B[j]? = some (.b j))
  (hw:∀C:Ctx,C.nt=fn.ntmps→wpc P C H ac (aBc P fn.results.toList B r F) (fun e σ=>match e with|.ret=>aBc P fn.results.toList B r F σ|.exit _=>False) ⟨ini 0 args,aAF 0 hin⟩) :
  Fn P f hin args r (F.map some):=by
 refine⟨⟨fn,I,hf,G,M⟩,?_⟩;intro S w ρ κ vs hl _ hp L
 let C:Ctx:={nt:=fn.ntmps,w0:=w,S0:=S,Mut:=aAu ρ hin,ρ0:=fun j=>ρ (.b j),κ0:=fun j=>κ (.b j),h0:=fun j=>hin[j]?}
 have hC:=hw C rfl;refine calls_of_wp hf G ?_
 have J:∀a w',cK C (aBc P fn.results.toList B r F) a w'→a.defers=[]∧∃v,(results fn a.tmps).run P w'=.ok v w'∧
   ∃v2 S' ρ' κ',Ending.returned v=.returned v2∧Post S w ρ κ hin S' w' ρ' κ' (F.map some)∧RV S' w' ρ' κ' (Hn (F.map some)) r v2:=by
  rintro a w' ⟨σ,S1,ρ1,κ1,hK,hok1⟩;refine⟨hok1.defers,?_⟩;obtain⟨x,v,⟨L1,L2,O,h2⟩,h3,h4⟩:=uR hok1 (K:=fun x=>∃L1 L2,conv (aB σ.h) 8 B false x=some (r,L1)∧vI (aB σ.h) B B=some (F,L2)) hK;refine⟨v,h4,v,?_⟩;obtain⟨S',ρ',κ',g1,g2,g3,g4,g5,g6⟩:=aEX hok1.hok hk h3 O h2;refine⟨S',ρ',κ',rfl,⟨g1,hok1.size,fun b G hm=>hok1.old b G hm,fun b G=>g3 b (hok1.S0 b G),fun b G=>?_,fun j z Y hz=>?_,hok1.out,fun j b' Y he=>?_⟩,g2⟩
  ·rcases g4 b G with h|⟨n,U,h⟩
   ·exact hok1.Snew b h
   ·exact .inr (hok1.mine n b U h)
  ·obtain⟨n,U,h⟩:=g5 j z Y hz;exact hok1.mine n z U h
  ·obtain⟨e1,e2,e3⟩:=g6 j (.b j) (hB j Y);obtain⟨b,h5,h6⟩:=e3 b' he;obtain⟨e4,e5,b0,h7,h8⟩:=hok1.keep j b h5;exact⟨e1.trans e4,e2.trans e5,b0,h7,Blk.same_trans h8 h6⟩
 refine sM hd ac _ _ _ hC I _ _ w S ρ κ hc (fun a w' hg=>J a w' hg) (fun i a w' ⟨_,_,_,_,h,_⟩=>h.elim) (fun a w' hg=>J a w' hg) ?_
 have ha:∀n,((Hn (hin.map some)) n).isSome→∃j,j<hin.length∧n=.b j:=by
  intro n U;cases n with
  |t d j=>simp[Hn] at U
  | b j =>
   refine⟨j,?_,rfl⟩;rcases Nat.lt_or_ge j hin.length with h|h
   ·exact h
   ·simp[Hn,List.getD,List.getElem?_eq_none h] at U
 refine⟨?_,rfl,fun t=>?_,by simp only[St.f,kD];exact hl,Nat.le_refl _,fun _ _ _=>rfl,fun n x O h2=>?_,fun _ h=>h,fun b G=>.inl G,⟨rfl,rfl⟩,fun j b G=>?_⟩
 ·simp only[C,Array.size_append,Array.size_replicate];omega
 ·simp only[St.f,z8,Nat.zero_le,true_and,Nat.zero_add,Nat.sub_zero,kD];split
  ·rename_i ht
   have e:(vs++Array.replicate (fn.ntmps-vs.size) undef).getD t undef=vs.getD t undef:=by
    have O:t<vs.size:=by omega
    simp[Array.getElem?_append,O]
   rw[e];exact L t ht
  ·exact .junk _
 ·simp only[St.f,kD] at O;obtain⟨j,Y,rfl⟩:=ha n O;exact .inr ⟨j,Y,h2⟩
 ·simp only[St.f,kD] at G;refine⟨rfl,rfl,b,?_,b.same_refl⟩;simp only[Hn,List.getD,List.getElem?_map] at G;simp only[C];cases hx:hin[j]? with
  |none=>rw[hx] at G;simp at G
  |some b1=>rw[hx] at G;simpa using G
theorem iU.none:iU P (fun _ _=>.none):=by
 intro C H ops F G K Q σ a w S ρ κ h;cases h
end
section
variable [Envs]
def uX:AOp→Bool
 |.box _|.alloc _|.bslice .. | .mk .. | .call .. | .store .. | .append .. | .appendC .. | .bsliceC .. | .clr ..=>false
 |_=>true
end
section
variable [Envs]
def aK:AOp→List Operand
 |.mv x=>[x]
 |.pick c a b=>[c,a,b]
 |.load _ _ a=>[a]
 |.fieldAddr _ x=>[x]
 |.loadV _ _ a=>[a]
 |.fieldV _ x=>[x]
 |.field _ _ _ x=>[x]
 |.idxSl _ x i=>[x,i]
 |.idxArr _ _ x i=>[x,i]
 |.idxAgg _ _ _ x i=>[x,i]
 |.idxStr x i=>[x,i]
 |.bin _ x y=>[x,y]
 |.binS _ x y=>[x,y]
 |.binB _ x y=>[x,y]
 |.un _ x=>[x]
 |.conv _ x=>[x]
 |.b2s x=>[x]
 |.eqA _ _ x y=>[x,y]
 |.idxB x y=>[x,y]
 |.len x=>[x]
 |.lenS x=>[x]
 |.lenC _=>[]
 |.slc _ x a b=>x::(a.toList++b.toList)
 |.sstr x a b=>x::(a.toList++b.toList)
 |.nilc x=>[x]
 |.extract x _=>[x]
 |.build _ ps=>ps.map fun p=>p.2.2
 |.mkfn _ cs=>cs
 |.mm _ x y=>[x,y]
 |.box x=>[x]
 |.alloc _=>[]
 |.bslice _ _ _ ps=>ps.map fun p=>p.2
 |.mk _ _ _ n=>[n]
 |.call f a _=>f::a
 |.store _ a x=>[a,x]
 |.append _ _ a x=>[a,x]
 |.appendC _ _ a x=>[a,x]
 |.bsliceC _ _ _ ps=>ps.map fun p=>p.2
 |.clr _ _ x=>[x]
def Agr (N:Name→Prop) (h h':Name→Option Blk):Prop:=∀n,¬N n→(h n).map frz=(h' n).map frz
def Off (N:Name→Prop) (x:AV):Prop:=∀n,N n→x.has n=false
def dL (N:Name→Prop) (c:List AV):Prop:=∀n,N n→l6 n c=false
def aCp (N:Name→Prop) (b:Blk):Prop:=∀n,N n→b.has n=false
variable {N:Name→Prop}{h h':Name→Option Blk}{ev ev':Operand→AV}
theorem Agr.symm (F:Agr N h h'):Agr N h' h:=fun n G=>(F n G).symm
theorem Agr.none (F:Agr N h h') {n:Name} (G:¬N n) (hh:h n=none):h' n=none:=by
 have:=F n G;rw[hh] at this;cases hx:h' n with
 |none=>rfl
 |some b=>rw[hx] at this;simp at this
theorem Agr.some (G:Agr N h h') {n:Name} (H:¬N n) {b:Blk} (hh:h n=some b):∃F,h' n=some F∧frz F=frz b:=by
 have:=G n H;rw[hh] at this;cases hx:h' n with
 |none=>rw[hx] at this;simp at this
 |some F=>rw[hx] at this;simp at this;exact⟨F,rfl,this.symm⟩
theorem aKC {b F:Blk} (G:frz F=frz b) (e:Nat):F.row e=b.row e:=by
 cases b<;>cases F<;>simp[frz] at G<;>simp[Blk.row,G];cases e<;>simp[Blk.row,G]
theorem xR {b:Blk}{k:Nat}{l:List (List AV)}{z:Bool} (F:frz b=frz (.arr k l z)):∃G,b=.arr k l G:=by
 cases b<;>simp[frz] at F;obtain⟨rfl,rfl⟩:=F;exact⟨_,rfl⟩
theorem aAk {b:Blk}{c:List AV}{z:Bool} (F:frz b=frz (.var c z)):∃G,b=.var c G:=by
 cases b<;>simp[frz] at F;subst F;exact⟨_,rfl⟩
theorem aKD {b F:Blk} (G:frz F=frz b) (n:Name):F.has n=b.has n:=by
 cases b<;>cases F<;>simp[frz] at G<;>simp[Blk.has,G]
theorem Off.ptr {n:Name}{e c:Nat} (G:Off N (.ptr n e c)):¬N n:=fun F=>by simpa[AV.has] using G n F
theorem Off.loc {n:Name}{e c:Nat} (G:Off N (.loc n e c)):¬N n:=fun F=>by simpa[AV.has] using G n F
theorem Off.agg {c:List AV} (G:Off N (.agg c)):dL N c:=fun n F=>by simpa[AV.has] using G n F
theorem Off.tup {c:List AV} (G:Off N (.tup c)):dL N c:=fun n F=>by simpa[AV.has] using G n F
theorem Off.fn {f:FuncId}{c:List AV} (G:Off N (.fn f c)):dL N c:=fun n F=>by simpa[AV.has] using G n F
theorem dL.cons {x:AV}{c:List AV} (G:dL N (x::c)):Off N x∧dL N c:=
 ⟨fun n F=>by have:=G n F;simp[l6] at this;exact this.1,fun n F=>by have:=G n F;simp[l6] at this;exact this.2⟩
theorem dL.mk_cons {x:AV}{c:List AV} (H:Off N x) (G:dL N c):dL N (x::c):=fun n F=>by simp[l6,H n F,G n F]
theorem dL.nil:dL N []:=fun _ _=>rfl
theorem dL.mem:∀{c:List AV},dL N c→∀x,x∈c→Off N x
 | [],_,x,hx=>by cases hx
 | y::r,ho,x,hx=>by
  rcases List.mem_cons.1 hx with rfl|hx
  ·exact ho.cons.1
  ·exact dL.mem ho.cons.2 x hx
theorem dL.of_mem:∀{c:List AV},(∀x,x∈c→Off N x)→dL N c
 | [],_=>dL.nil
 |_::_,h=>dL.mk_cons (h _ (by simp)) (dL.of_mem fun x F=>h x (by simp[F]))
theorem dL.getD {c:List AV} (G:dL N c) (j:Nat):Off N (c.getD j .junk):=fun n F=>qF (G n F)
theorem dL.drop {c:List AV} (F:dL N c) (j:Nat):dL N (c.drop j):=dL.of_mem fun x G=>F.mem x (List.mem_of_mem_drop G)
theorem dL.take {c:List AV} (F:dL N c) (j:Nat):dL N (c.take j):=dL.of_mem fun x G=>F.mem x (List.mem_of_mem_take G)
theorem Off.v (x:Value):Off N (.v x):=fun _ _=>rfl
theorem Off.junk:Off N .junk:=fun _ _=>rfl
theorem Off.sl (k:Nat) (l:List (List AV)):Off N (.sl k l):=fun _ _=>rfl
theorem Off.ro (c:List AV):Off N (.ro c):=fun _ _=>rfl
theorem Off.mk_agg {c:List AV} (G:dL N c):Off N (.agg c):=fun n F=>by simpa[AV.has] using G n F
theorem Off.mk_fn {f:FuncId}{c:List AV} (G:dL N c):Off N (.fn f c):=fun n F=>by simpa[AV.has] using G n F
theorem Off.mk_tup {c:List AV} (G:dL N c):Off N (.tup c):=fun n F=>by simpa[AV.has] using G n F
theorem Off.mk_ptr {n:Name}{e c:Nat} (G:¬N n):Off N (.ptr n e c):=fun m F=>by
 simp only[AV.has,decide_eq_false_iff_not];rintro rfl;exact G F
theorem Off.mk_loc {n:Name}{e c:Nat} (G:¬N n):Off N (.loc n e c):=fun m F=>by
 simp only[AV.has,decide_eq_false_iff_not];rintro rfl;exact G F
theorem wF (G:Agr N h h') {x:AV} (H:Off N x):nM h x=nM h' x:=by
 cases x<;>try rfl
 case loc n off len =>
  simp only[nM];cases hx:h n with
  |none=>rw[G.none H.loc hx]
  | some b =>
   obtain⟨I,F,e⟩:=G.some H.loc hx;rw[F];cases b<;>cases I<;>simp[frz] at e<;>rfl
 case ptr n e c =>
  simp only[nM];cases hx:h n with
  |none=>rw[G.none H.ptr hx]
  | some b =>
   obtain⟨I,F,e⟩:=G.some H.ptr hx;rw[F];rfl
theorem uL {p q:AV→Bool}:∀{c:List AV},(∀x,x∈c→p x=q x)→c.all p=c.all q
 | [],_=>rfl
 |x::r,h=>by simp only[List.all_cons,h x (by simp),uL (c:=r) fun y F=>h y (by simp[F])]
theorem aCg (F:Agr N h h') {x:AV} (G:Off N x):jL h x=jL h' x:=by
 cases x
 case agg c =>
  simp only[jL];rw[uL (q:=nM h') fun x H=>wF F (G.agg.mem x H)]
 all_goals simp only[jL,wF F G]
theorem aF1 {x:AV} (G:Off N x) {c:List AV} (F:jL h x=some c):dL N c:=by
 cases x
 case agg c' =>
  simp only[jL] at F;split at F
  ·obtain rfl:=Option.some.inj F;exact G.agg
  ·cases F
 all_goals
  simp only[jL] at F;split at F
  ·obtain rfl:=Option.some.inj F;exact dL.mk_cons G dL.nil
  ·cases F
theorem yN (I:Agr N h h'):∀{F:List (Nat×Nat×Operand)}{cs:List AV}{K:List AV→Prop},(∀p,p∈F→ev p.2.2=ev' p.2.2∧Off N (ev p.2.2))→layAll ev h cs F K→layAll ev' h' cs F K
 | [],_,_,_,hk=>hk
 | (o,n,x)::r,cs,K,he,hk=>by
  obtain⟨G,H⟩:=he (o,n,x) (by simp);simp only at G H;simp only[layAll] at hk⊢;rw[←G,←aCg I H];split at hk
  ·exact⟨hk.1,yN I (fun p J=>he p (by simp[J])) hk.2⟩
  ·exact hk
theorem wH:∀{G:List (Nat×Nat×Operand)}{cs:List AV}{K F:List AV→Prop},(∀c,K c→F c)→layAll ev h cs G K→layAll ev h cs G F
 | [],_,_,_,hh,hk=>hh _ hk
 | (o,n,x)::r,cs,K,F,hh,hk=>by
  simp only[layAll] at hk⊢;split at hk
  ·exact⟨hk.1,wH hh hk.2⟩
  ·exact hk
theorem uV:∀{F:List (Nat×Nat×Operand)}{cs:List AV}{K:List AV→Prop},layAll ev h cs F K→∃c,K c∧layAll ev h cs F (fun G=>G=c)
 | [],cs,_,hk=>⟨cs,hk,rfl⟩
 | (o,n,x)::r,cs,K,hk=>by
  simp only[layAll] at hk⊢;split at hk
  ·obtain⟨c,H,h2⟩:=uV hk.2;exact⟨c,H,hk.1,h2⟩
  ·exact hk.elim
end
section
variable [Envs]
variable {N:Name→Prop}{h h':Name→Option Blk}{ev ev':Operand→AV}
theorem aHl (G:Agr N h h') {k:Nat}{x:AV} (H:Off N x):pO k h x=pO k h' x:=by
 cases x<;>try rfl
 case v x=>unfold pO;split<;>first|rfl|simp_all
 case loc n off len =>
  simp only[pO];cases hx:h n with
  |none=>rw[G.none H.loc hx]
  | some b =>
   obtain⟨J,F,e⟩:=G.some H.loc hx;rw[F];cases b with
   |var c z=>obtain⟨I,rfl⟩:=aAk e;rfl
   |arr k l z=>obtain⟨I,rfl⟩:=xR e;rfl
theorem aLx (U:Agr N h h') {op:AOp}{K:AV→Prop} (G:∀o,o∈aK op→ev o=ev' o∧Off N (ev o)) (F:rd ev h K op):rd ev' h' K op:=by
 cases op
 case mv x=>simpa only[rd,(G x (by simp[aK])).1] using F
 case pick c a b =>
  simp only[rd] at F⊢;rw[←(G c (by simp[aK])).1,←(G a (by simp[aK])).1,←(G b (by simp[aK])).1];exact F
 case load g k a =>
  have⟨J,I⟩:=G a (by simp[aK]);simp only[rd,←J] at F⊢;split at F
  ·exact F
  ·rename_i n e c M;rw[M] at I;split at F
   ·rename_i b L;obtain⟨Y,H,O⟩:=U.some I.ptr L;simp only[H,aKC O];exact F
   ·exact F.elim
  ·exact F.elim
 case fieldAddr off x =>
  have⟨J,I⟩:=G x (by simp[aK]);simp only[rd,←J] at F⊢;split at F
  ·rename_i n e c M;rw[M] at I;split at F
   ·rename_i b L;obtain⟨Y,H,O⟩:=U.some I.ptr L;simp only[H];exact F
   ·exact F.elim
  ·exact F
  ·exact F.elim
 case loadV g k a =>
  have⟨J,I⟩:=G a (by simp[aK]);simp only[rd,←J] at F⊢;split at F
  ·rename_i n e c M;rw[M] at I;split at F
   ·rename_i cs z L;obtain⟨Y,H,O⟩:=U.some I.ptr L;obtain⟨z',rfl⟩:=aAk O;simp only[H];have er:(Blk.var cs z').row e=(Blk.var cs z).row e:=by cases e<;>rfl
    rw[er];exact F
   ·exact F.elim
  ·exact F.elim
 case fieldV off x =>
  have⟨J,I⟩:=G x (by simp[aK]);simp only[rd,←J] at F⊢;split at F
  ·rename_i n e c M;rw[M] at I;split at F
   ·rename_i cs z L;obtain⟨Y,H,O⟩:=U.some I.ptr L;obtain⟨z',rfl⟩:=aAk O;simp only[H];exact F
   ·exact F.elim
  ·exact F.elim
 case field g off k x=>simpa only[rd,(G x (by simp[aK])).1] using F
 case idxSl k x i =>
  have⟨J,I⟩:=G x (by simp[aK]);have⟨e3,_⟩:=G i (by simp[aK]);simp only[rd,←J,←e3] at F⊢;split at F
  ·exact F
  ·rename_i n off len kk i' M hi;rw[M] at I;split at F
   ·rename_i k' l z L;obtain⟨Y,H,O⟩:=U.some I.loc L;obtain⟨z',rfl⟩:=xR O;simp only[H];exact F
   ·exact F.elim
  ·exact F.elim
 case idxArr n k x i =>
  have⟨J,I⟩:=G x (by simp[aK]);have⟨e3,_⟩:=G i (by simp[aK]);simp only[rd,←J,←e3] at F⊢;split at F
  ·exact F
  ·rename_i m e c kk i' M hi;rw[M] at I;split at F
   ·rename_i b L;obtain⟨Y,H,O⟩:=U.some I.ptr L;simp only[H];exact F
   ·exact F.elim
  ·exact F.elim
 case idxAgg g n k x i=>simpa only[rd,(G x (by simp[aK])).1,(G i (by simp[aK])).1] using F
 case idxStr x i=>simpa only[rd,(G x (by simp[aK])).1,(G i (by simp[aK])).1] using F
 case bin o x y=>simpa only[rd,(G x (by simp[aK])).1,(G y (by simp[aK])).1] using F
 case binS o x y=>simpa only[rd,(G x (by simp[aK])).1,(G y (by simp[aK])).1] using F
 case binB o x y=>simpa only[rd,(G x (by simp[aK])).1,(G y (by simp[aK])).1] using F
 case un o x=>simpa only[rd,(G x (by simp[aK])).1] using F
 case conv k x=>simpa only[rd,(G x (by simp[aK])).1] using F
 case len x =>
  have⟨J,I⟩:=G x (by simp[aK]);simp only[rd,←J] at F⊢;split at F
  ·exact F
  ·rename_i n off len M;rw[M] at I;split at F
   ·rename_i k' l z L;obtain⟨Y,H,O⟩:=U.some I.loc L;obtain⟨z',rfl⟩:=xR O;simp only[H];exact F
   ·exact F.elim
  ·exact F
  ·exact F.elim
 case lenS x=>simpa only[rd,(G x (by simp[aK])).1] using F
 case lenC n=>exact F
 case slc k x lo hi =>
  have⟨J,I⟩:=G x (by simp[aK])
  have e3:lo.map ev=lo.map ev':=by
   cases lo with
   |none=>rfl
   |some o=>simp[(G o (by simp[aK])).1]
  have e4:hi.map ev=hi.map ev':=by
   cases hi with
   |none=>rfl
   |some o=>simp[(G o (by simp[aK])).1]
  simp only[rd,←J,←e3,←e4] at F⊢;split at F
  ·exact F
  ·rename_i n off len M;rw[M] at I;split at F
   ·rename_i k' l z L;obtain⟨Y,H,O⟩:=U.some I.loc L;obtain⟨z',rfl⟩:=xR O;simp only[H];exact F
   ·exact F.elim
  ·exact F.elim
 case sstr x lo hi =>
  have⟨J,I⟩:=G x (by simp[aK])
  have e3:lo.map ev=lo.map ev':=by
   cases lo with
   |none=>rfl
   |some o=>simp[(G o (by simp[aK])).1]
  have e4:hi.map ev=hi.map ev':=by
   cases hi with
   |none=>rfl
   |some o=>simp[(G o (by simp[aK])).1]
  simpa only[rd,←J,←e3,←e4] using F
 case nilc x =>
  have⟨J,I⟩:=G x (by simp[aK]);simp only[rd,←J] at F⊢;split at F
  ·exact F
  ·rename_i n e c M;rw[M] at I;split at F
   ·rename_i b L;obtain⟨Y,H,O⟩:=U.some I.ptr L;simp only[H];exact F
   ·exact F.elim
  ·exact F
  ·exact F.elim
 case extract x i=>simpa only[rd,(G x (by simp[aK])).1] using F
 case build z ps =>
  simp only[rd] at F⊢;exact yN U (fun p hp=>G _ (by simp only[aK,List.mem_map];exact⟨p,hp,rfl⟩)) F
 case mkfn f cs =>
  simp only[rd] at F⊢;rw[←List.map_congr_left (f:=ev) (g:=ev') fun o ho=>(G o (by simpa[aK] using ho)).1];exact F
 case mm mx x y=>simpa only[rd,(G x (by simp[aK])).1,(G y (by simp[aK])).1] using F
 case b2s x =>
  have⟨J,I⟩:=G x (by simp[aK]);simp only[rd,←J,←aHl U I] at F⊢;exact F
 case eqA neg ks x y=>simpa only[rd,(G x (by simp[aK])).1,(G y (by simp[aK])).1] using F
 case idxB x y=>simpa only[rd,(G x (by simp[aK])).1,(G y (by simp[aK])).1] using F
 all_goals exact F.elim
theorem aF4 {op:BinOp}{k H:IntKind}{a b:Int}{K:AV→Prop} (F:aFb op k H a b K):∃x:Value,K (.v x)∧∀G:AV→Prop,G (.v x)→aFb op k H a b G:=by
 cases op<;>simp only[aFb] at F⊢<;> exact⟨_,F.2,fun _ I=>⟨F.1,I⟩⟩
theorem aDX {op:BinOp}{a b:ByteArray}{K:AV→Prop} (F:aAT op a b K):∃x:Value,K (.v x)∧∀H:AV→Prop,H (.v x)→aAT op a b H:=by
 cases op<;>simp only[aAT] at F⊢<;> first
  |exact F.elim
  |exact⟨_,F.2,fun _ G=>⟨F.1,G⟩⟩
  |exact⟨_,F,fun _ G=>G⟩
theorem aCy {op:BinOp}{a b:Bool}{K:AV→Prop} (F:xY op a b K):∃x:Value,K (.v x)∧∀G:AV→Prop,G (.v x)→xY op a b G:=by
 cases op<;>simp only[xY] at F⊢<;> first
  |exact F.elim
  |exact⟨_,F,fun _ H=>H⟩
inductive Nm:(Name→Prop)→AV→Prop
 |junk (p:Name→Prop):Nm p .junk
 |v (p:Name→Prop) (x:Value):Nm p (.v x)
 |sl (p:Name→Prop) (k:Nat) (l:List (List AV)) (hl:∀r,r∈l→∀x,x∈r→Nm (fun _=>False) x):Nm p (.sl k l)
 |ro (p:Name→Prop) (c:List AV) (hc:∀x,x∈c→Nm (fun _=>False) x):Nm p (.ro c)
 |loc (p:Name→Prop) (n:Name) (off len:Nat) (hn:p n):Nm p (.loc n off len)
 |ptr (p:Name→Prop) (n:Name) (e c:Nat) (hn:p n):Nm p (.ptr n e c)
 |fn (p:Name→Prop) (f:FuncId) (c:List AV) (hc:∀x,x∈c→Nm p x):Nm p (.fn f c)
 |agg (p:Name→Prop) (c:List AV) (hc:∀x,x∈c→Nm p x):Nm p (.agg c)
 |tup (p:Name→Prop) (c:List AV) (hc:∀x,x∈c→Nm p x):Nm p (.tup c)
def NmL (p:Name→Prop) (c:List AV):Prop:=∀x,x∈c→Nm p x
def NmB (p:Name→Prop):Blk→Prop
 |.var c _=>NmL p c
 |.arr _ l _=>∀r,r∈l→NmL (fun _=>False) r
theorem Nm.mono {p q:Name→Prop}{x:AV} (G:Nm p x) (F:∀n,p n→q n):Nm q x:=by
 induction G with
 |junk=>exact .junk _
 |v=>exact .v _ _
 |sl _ k l hl _=>exact .sl _ k l hl
 |ro _ c hc _=>exact .ro _ c hc
 |loc _ n off len hn=>exact .loc _ n off len (F n hn)
 |ptr _ n e c hn=>exact .ptr _ n e c (F n hn)
 |fn _ f c hc ih=>exact .fn _ f c fun x G=>ih x G F
 |agg _ c hc ih=>exact .agg _ c fun x G=>ih x G F
 |tup _ c hc ih=>exact .tup _ c fun x G=>ih x G F
theorem Nm.off {p:Name→Prop}{x:AV} (F:Nm p x) (G:∀n,p n→¬N n):Off N x:=by
 induction F with
 |junk=>exact Off.junk
 |v=>exact Off.v _
 |sl=>exact Off.sl _ _
 |ro=>exact Off.ro _
 |loc _ n off len hn=>exact Off.mk_loc (G n hn)
 |ptr _ n e c hn=>exact Off.mk_ptr (G n hn)
 |fn _ f c hc ih=>exact Off.mk_fn (dL.of_mem fun x F=>ih x F G)
 |agg _ c hc ih=>exact Off.mk_agg (dL.of_mem fun x F=>ih x F G)
 |tup _ c hc ih=>exact Off.mk_tup (dL.of_mem fun x F=>ih x F G)
theorem Nm.of_off {p:Name→Prop}{x:AV} (F:Nm p x) (G:Off N x):Nm (fun n=>¬N n) x:=by
 induction F with
 |junk=>exact .junk _
 |v=>exact .v _ _
 |sl _ k l hl _=>exact .sl _ k l hl
 |ro _ c hc _=>exact .ro _ c hc
 |loc _ n off len hn=>exact .loc _ n off len G.loc
 |ptr _ n e c hn=>exact .ptr _ n e c G.ptr
 |fn _ f c hc ih=>exact .fn _ f c fun x F=>ih x F (G.fn.mem x F)
 |agg _ c hc ih=>exact .agg _ c fun x F=>ih x F (G.agg.mem x F)
 |tup _ c hc ih=>exact .tup _ c fun x F=>ih x F (G.tup.mem x F)
theorem Nm.getD {p:Name→Prop}{c:List AV} (F:NmL p c) (j:Nat):Nm p (c.getD j .junk):=by
 rcases Nat.lt_or_ge j c.length with h|h
 ·have:c.getD j .junk=c[j]:=by simp[List.getD,h]
  rw[this];exact F _ (List.getElem_mem h)
 ·have:c.getD j .junk=.junk:=by simp[List.getD,h]
  rw[this];exact .junk _
theorem NmL.drop {p:Name→Prop}{c:List AV} (F:NmL p c) (j:Nat):NmL p (c.drop j):=fun x G=>F x (List.mem_of_mem_drop G)
theorem NmL.take {p:Name→Prop}{c:List AV} (F:NmL p c) (j:Nat):NmL p (c.take j):=fun x G=>F x (List.mem_of_mem_take G)
theorem NmL.mk {p:Name→Prop}{g:Bool}{c:List AV} (F:NmL p c):Nm p (AV.mk g c):=by
 cases g
 ·cases c with
  |nil=>exact .junk _
  |cons x r=>exact F x (by simp)
 ·exact .agg _ c F
theorem NmL.closed {p:Name→Prop}{c:List AV} (F:NmL (fun _=>False) c):NmL p c:=fun x G=>(F x G).mono fun _ h=>h.elim
theorem Nm.pF {p:Name→Prop}{c:List AV} (h:Nm p (.ro c)):NmL (fun _=>False) c:=by cases h;assumption
theorem Nm.sI {p:Name→Prop}{k:Nat}{l:List (List AV)} (h:Nm p (.sl k l)):∀r,r∈l→NmL (fun _=>False) r:=by cases h;assumption
theorem Nm.eD {p:Name→Prop}{n:Name}{e c:Nat} (h:Nm p (.ptr n e c)):p n:=by cases h;assumption
theorem Nm.iP {p:Name→Prop}{n:Name}{e c:Nat} (h:Nm p (.loc n e c)):p n:=by cases h;assumption
theorem Nm.gL {p:Name→Prop}{c:List AV} (h:Nm p (.agg c)):NmL p c:=by cases h;assumption
theorem Nm.nZ {p:Name→Prop}{c:List AV} (h:Nm p (.tup c)):NmL p c:=by cases h;assumption
theorem NmB.row {p:Name→Prop}{b:Blk} (G:NmB p b) (e:Nat):NmL p (b.row e):=by
 cases b with
 | var c z=>cases e with
  |zero=>exact G
  |succ e=>intro x F;simp[Blk.row] at F
 | arr k l z =>
  intro x F;simp only[Blk.row] at F;rcases Nat.lt_or_ge e l.length with h|h
  ·have:l.getD e []=l[e]:=by simp[List.getD,h]
   rw[this] at F;exact(G _ (List.getElem_mem h) x F).mono fun _ h=>h.elim
  ·have:l.getD e []=[]:=by simp[List.getD,h]
   rw[this] at F;simp at F
theorem aHT {p:Name→Prop}{x:AV} (G:Nm p x) {c:List AV} (F:jL h x=some c):NmL p c:=by
 cases x
 case agg c' =>
  simp only[jL] at F;split at F
  ·obtain rfl:=Option.some.inj F;exact G.gL
  ·cases F
 all_goals
  simp only[jL] at F;split at F
  ·obtain rfl:=Option.some.inj F;intro y H;rw[List.mem_singleton] at H;rw[H];exact G
  ·cases F
theorem aIX {p:Name→Prop}:∀{xs cs:List AV}{o:Nat},NmL p xs→NmL p cs→NmL p (lay cs o xs)
 | [],_,_,_,hc=>hc
 | x::r,cs,o,hx,hc=>by
  rw[lay];refine aIX (fun y F=>hx y (by simp[F])) fun y F=>?_;rcases List.mem_or_eq_of_mem_set F with h|rfl
  ·exact hc y h
  ·exact hx _ (by simp)
theorem aCO {p:Name→Prop}:∀{G:List (Nat×Nat×Operand)}{cs:List AV}{c:List AV},(∀q,q∈G→Nm p (ev q.2.2))→NmL p cs→layAll ev h cs G (fun H=>H=c)→NmL p c
 | [],_,_,_,hc,hk=>by cases hk;exact hc
 | (o,n,x)::r,cs,K,he,hc,hk=>by
  simp only[layAll] at hk;split at hk
  ·rename_i c F;exact aCO (fun p I=>he p (by simp[I])) (aIX (aHT (he (o,n,x) (by simp)) F) hc) hk.2
  ·exact hk.elim
theorem zS {op:AOp}{K:AV→Prop} (G:rd ev h K op):∃x,K x∧(∀U:AV→Prop,U x→rd ev h U op)∧
  ∀p:Name→Prop,(∀z ps,op=.build z ps→NmL p z)→(∀o,o∈aK op→Nm p (ev o))→(∀n b,p n→h n=some b→NmB p b)→Nm p x:=by
 cases op
 case mv x=>exact⟨_,G,fun _ F=>F,fun p _ H _=>H x (by simp[aK])⟩
 case pick c a b =>
  simp only[rd] at G⊢;split at G
  ·rename_i t ht;cases t
   ·exact⟨_,G.get.2 rfl,fun _ F=>Br.mk (fun h=>(by cases h)) (fun _=>F),fun p _ H _=>H b (by simp[aK])⟩
   ·exact⟨_,G.get.1 rfl,fun _ F=>Br.mk (fun _=>F) (fun h=>(by cases h)),fun p _ H _=>H a (by simp[aK])⟩
  ·exact G.elim
 case load g k a =>
  simp only[rd] at G⊢;split at G
  ·rename_i c I
   exact ⟨_,G.2,fun _ F=>⟨G.1,F⟩,fun p _ H _=>by
     have:=H a (by simp[aK]);rw[I] at this;exact NmL.mk (NmL.take (NmL.closed this.pF) _)⟩
  ·rename_i n e c I;split at G
   ·rename_i b Y
    exact ⟨_,G.2,fun _ F=>⟨G.1,F⟩,fun p _ H hh=>by
      have:=H a (by simp[aK]);rw[I] at this;exact NmL.mk (NmL.take (NmL.drop ((hh n b this.eD Y).row e) _) _)⟩
   ·exact G.elim
  ·exact G.elim
 case fieldAddr off x =>
  simp only[rd] at G⊢;split at G
  ·rename_i n e c I;split at G
   ·exact ⟨_,G,fun _ F=>F,fun p _ H _=>by
      have:=H x (by simp[aK]);rw[I] at this;exact .ptr _ _ _ _ this.eD⟩
   ·exact G.elim
  ·rename_i c I
   exact ⟨_,G.2,fun _ F=>⟨G.1,F⟩,fun p _ H _=>by
     have:=H x (by simp[aK]);rw[I] at this;exact .ro _ _ (NmL.drop this.pF _)⟩
  ·exact G.elim
 case loadV g k a =>
  simp only[rd] at G⊢;split at G
  ·rename_i n e c I;split at G
   ·rename_i cs z Y
    exact ⟨_,G.2,fun _ F=>⟨G.1,F⟩,fun p _ H hh=>by
      have:=H a (by simp[aK]);rw[I] at this;exact NmL.mk (NmL.take (NmL.drop ((hh n _ this.eD Y).row e) _) _)⟩
   ·exact G.elim
  ·exact G.elim
 case fieldV off x =>
  simp only[rd] at G⊢;split at G
  ·rename_i n e c I;split at G
   ·exact ⟨_,G,fun _ F=>F,fun p _ H _=>by
      have:=H x (by simp[aK]);rw[I] at this;exact .ptr _ _ _ _ this.eD⟩
   ·exact G.elim
  ·exact G.elim
 case field g off k x =>
  simp only[rd] at G⊢;split at G
  ·rename_i c I
   exact ⟨_,G.2,fun _ F=>⟨G.1,F⟩,fun p _ H _=>by
     have:=H x (by simp[aK]);rw[I] at this;exact NmL.mk (NmL.take (NmL.drop this.gL _) _)⟩
  ·exact G.elim
 case idxSl k x i =>
  simp only[rd] at G⊢;split at G
  ·rename_i k' l O L I hi
   exact ⟨_,G.2,fun _ F=>⟨G.1,F⟩,fun p _ H _=>by
     have:=H x (by simp[aK]);rw[I] at this;refine .ro _ _ fun y hy=>?_;have M:L.toNat<l.length:=by have:=G.1;omega
     have e:l.getD L.toNat []=l[L.toNat]:=by simp[List.getD,M]
     rw[e] at hy;exact this.sI _ (List.getElem_mem M) y hy⟩
  ·rename_i n off len O L I hi;split at G
   ·exact ⟨_,G.2,fun _ F=>⟨G.1,F⟩,fun p _ H _=>by
      have:=H x (by simp[aK]);rw[I] at this;exact .ptr _ _ _ _ this.iP⟩
   ·exact G.elim
  ·exact G.elim
 case idxArr n k x i =>
  simp only[rd] at G⊢;split at G
  ·rename_i c O L I hi
   exact ⟨_,G.2,fun _ F=>⟨G.1,F⟩,fun p _ H _=>by
     have:=H x (by simp[aK]);rw[I] at this;exact .ro _ _ (NmL.drop this.pF _)⟩
  ·rename_i m e c O L I hi;split at G
   ·exact ⟨_,G.2,fun _ F=>⟨G.1,F⟩,fun p _ H _=>by
      have:=H x (by simp[aK]);rw[I] at this;exact .ptr _ _ _ _ this.eD⟩
   ·exact G.elim
  ·exact G.elim
 case idxAgg g n k x i =>
  simp only[rd] at G⊢;split at G
  ·rename_i c O L I hi
   exact ⟨_,G.2,fun _ F=>⟨G.1,F⟩,fun p _ H _=>by
     have:=H x (by simp[aK]);rw[I] at this;exact NmL.mk (NmL.take (NmL.drop this.gL _) _)⟩
  ·exact G.elim
 case idxStr x i =>
  simp only[rd] at G⊢;split at G
  ·exact⟨_,G.2,fun _ F=>⟨G.1,F⟩,fun p _ _ _=>.v _ _⟩
  ·exact G.elim
 case bin o x y =>
  simp only[rd] at G⊢;split at G
  ·obtain⟨v,J,h2⟩:=aF4 G;exact⟨_,J,h2,fun p _ _ _=>.v _ _⟩
  ·exact G.elim
 case binS o x y =>
  simp only[rd] at G⊢;split at G
  ·obtain⟨v,J,h2⟩:=aDX G;exact⟨_,J,h2,fun p _ _ _=>.v _ _⟩
  ·exact G.elim
 case binB o x y =>
  simp only[rd] at G⊢;split at G
  ·obtain⟨v,J,h2⟩:=aCy G;exact⟨_,J,h2,fun p _ _ _=>.v _ _⟩
  ·exact G.elim
 case un o x =>
  simp only[rd] at G⊢;split at G
  ·exact⟨_,G,fun _ F=>F,fun p _ _ _=>.v _ _⟩
  ·exact⟨_,G,fun _ F=>F,fun p _ _ _=>.v _ _⟩
  ·exact⟨_,G,fun _ F=>F,fun p _ _ _=>.v _ _⟩
  ·exact G.elim
 case conv k x =>
  simp only[rd] at G⊢;split at G
  ·exact⟨_,G,fun _ F=>F,fun p _ _ _=>.v _ _⟩
  ·exact G.elim
 case len x =>
  simp only[rd] at G⊢;split at G
  ·exact⟨_,G,fun _ F=>F,fun p _ _ _=>.v _ _⟩
  ·split at G
   ·exact⟨_,G,fun _ F=>F,fun p _ _ _=>.v _ _⟩
   ·exact G.elim
  ·exact⟨_,G,fun _ F=>F,fun p _ _ _=>.v _ _⟩
  ·exact G.elim
 case lenS x =>
  simp only[rd] at G⊢;split at G
  ·exact⟨_,G,fun _ F=>F,fun p _ _ _=>.v _ _⟩
  ·exact G.elim
 case lenC n=>exact⟨_,G,fun _ F=>F,fun p _ _ _=>.v _ _⟩
 case slc k x lo hi =>
  simp only[rd] at G⊢;split at G
  ·rename_i k' l I
   have fin:∀p:Name→Prop,(∀o,o∈aK (.slc k x lo hi)→Nm p (ev o))→∀a b,Nm p (.sl k ((l.take a).drop b)):=fun p H a b=>by
    have:=H x (by simp[aK]);rw[I] at this;exact .sl _ _ _ fun r hr=>this.sI r (List.mem_of_mem_take (List.mem_of_mem_drop hr))
   split at G
   ·exact⟨_,G.2,fun _ F=>⟨G.1,F⟩,fun p _ H _=>fin p H _ _⟩
   ·exact⟨_,G.2,fun _ F=>⟨G.1,F⟩,fun p _ H _=>fin p H _ _⟩
   ·exact⟨_,G.2,fun _ F=>⟨G.1,F⟩,fun p _ H _=>fin p H _ _⟩
   ·exact⟨_,G.2,fun _ F=>⟨G.1,F⟩,fun p _ H _=>fin p H _ _⟩
   ·exact G.elim
  ·rename_i n off len I
   have fin:∀p:Name→Prop,(∀o,o∈aK (.slc k x lo hi)→Nm p (ev o))→∀a b,Nm p (.loc n a b):=fun p H a b=>by
    have:=H x (by simp[aK]);rw[I] at this;exact .loc _ _ _ _ this.iP
   split at G
   ·split at G
    ·exact⟨_,G.2,fun _ F=>⟨G.1,F⟩,fun p _ H _=>fin p H _ _⟩
    ·exact⟨_,G.2,fun _ F=>⟨G.1,F⟩,fun p _ H _=>fin p H _ _⟩
    ·exact⟨_,G.2,fun _ F=>⟨G.1,F⟩,fun p _ H _=>fin p H _ _⟩
    ·exact⟨_,G.2,fun _ F=>⟨G.1,F⟩,fun p _ H _=>fin p H _ _⟩
    ·exact G.elim
   ·exact G.elim
  ·exact G.elim
 case sstr x lo hi =>
  simp only[rd] at G⊢;split at G
  ·split at G
   ·exact⟨_,G.2,fun _ F=>⟨G.1,F⟩,fun p _ _ _=>.v _ _⟩
   ·exact⟨_,G.2,fun _ F=>⟨G.1,F⟩,fun p _ _ _=>.v _ _⟩
   ·exact⟨_,G.2,fun _ F=>⟨G.1,F⟩,fun p _ _ _=>.v _ _⟩
   ·exact⟨_,G.2,fun _ F=>⟨G.1,F⟩,fun p _ _ _=>.v _ _⟩
   ·exact G.elim
  ·exact G.elim
 case nilc x =>
  simp only[rd] at G⊢;split at G
  ·rename_i c I;exact⟨_,G,fun _ F=>F,fun p _ H _=>by have:=H x (by simp[aK]);rwa [I] at this⟩
  ·rename_i n e c I;split at G
   ·exact⟨_,G,fun _ F=>F,fun p _ H _=>by have:=H x (by simp[aK]);rwa [I] at this⟩
   ·exact G.elim
  ·rename_i f c I;exact⟨_,G,fun _ F=>F,fun p _ H _=>by have:=H x (by simp[aK]);rwa [I] at this⟩
  ·exact G.elim
 case extract x i =>
  simp only[rd] at G⊢;split at G
  ·rename_i c I
   exact ⟨_,G.2,fun _ F=>⟨G.1,F⟩,fun p _ H _=>by
     have:=H x (by simp[aK]);rw[I] at this;exact Nm.getD this.nZ _⟩
  ·exact G.elim
 case build z ps =>
  simp only[rd] at G⊢;obtain⟨c,J,h2⟩:=uV G;refine⟨_,J,?_,fun p hz H _=>?_⟩
  ·exact fun U F=>wH (fun c' ha=>by rw[ha];exact F) h2
  ·exact .agg _ _ (aCO (fun q hq=>H _ (by simp only[aK,List.mem_map];exact⟨q,hq,rfl⟩)) (hz z ps rfl) h2)
 case mkfn f cs =>
  simp only[rd] at G⊢;refine⟨_,G,fun _ F=>F,fun p _ H _=>.fn _ _ _ fun x I=>?_⟩;obtain⟨o,hc,rfl⟩:=List.mem_map.1 I;exact H o (by simpa[aK] using hc)
 case mm mx x y =>
  simp only[rd] at G⊢;split at G
  ·exact⟨_,G,fun _ F=>F,fun p _ _ _=>.v _ _⟩
  ·exact G.elim
 case b2s x =>
  simp only[rd] at G⊢;split at G
  ·split at G
   ·exact⟨_,G,fun _ F=>F,fun p _ _ _=>.v _ _⟩
   ·exact G.elim
  ·exact G.elim
 case idxB x y =>
  simp only[rd] at G⊢;split at G
  ·exact⟨_,G,fun _ F=>F,fun p _ _ _=>.v _ _⟩
  ·exact G.elim
 case eqA neg ks x y =>
  simp only[rd] at G⊢;split at G
  ·split at G
   ·exact⟨_,G,fun _ F=>F,fun p _ _ _=>.v _ _⟩
   ·exact G.elim
  ·exact G.elim
 all_goals exact G.elim
end
section
variable [Envs]
variable {P:Program}{C:Ctx}{a:Act}{w:World}{S:Nat→Prop}{ρ:Name→Option Nat}{κ:Name→Nat}
variable {N:Name→Prop}{h h':Name→Option Blk}{ev ev':Operand→AV}
theorem aLX {n:Name} (G:Agr N h h') {op:AOp}{K:AV→Blk→Prop} (hz:∀z,op=.alloc z→dL N z) (L:∀k m z O,op=.bslice k m z O→dL N z) (M:∀k m z x,op=.mk k m z x→dL N z)
  (J:∀o,o∈aK op→ev o=ev' o∧Off N (ev o)) (F:al ev h n K op):al ev' h' n K op:=by
 cases op
 case box x =>
  have⟨I,U⟩:=J x (by simp[aK]);simp only[al,←I,←aCg G U] at F⊢;exact F
 case alloc z =>
  simp only[al] at F⊢;rw[←uL (p:=fun x=>nM h x&&dY x) fun x H=>by rw[wF G ((hz z rfl).mem x H)]];exact F
 case bslice k m z O =>
  simp only[al] at F⊢;rw[←uL (p:=nM h) fun x H=>wF G ((L k m z O rfl).mem x H)];refine⟨F.1,yN G (fun p Y=>?_) F.2⟩;obtain⟨q,hq,rfl⟩:=List.mem_map.1 Y;exact J _ (by simp only[aK,List.mem_map];exact⟨q,hq,rfl⟩)
 case mk k y z x =>
  have⟨I,U⟩:=J x (by simp[aK]);simp only[al,←I] at F⊢;split at F
  ·rw[←uL (p:=fun x=>nM h x&&dY x) fun x H=>by rw[wF G ((M k y z _ rfl).mem x H)]];exact F
  ·exact F.elim
 all_goals exact F.elim
theorem wX {n:Name}{op:AOp}{K:AV→Blk→Prop} (F:al ev h n K op):∃x b,K x b∧(∀I:AV→Blk→Prop,I x b→al ev h n I op)∧
  (∀N:Name→Prop,¬N n→Off N x)∧∀N:Name→Prop,(∀z,op=.alloc z→dL N z)→(∀o,o∈aK op→Off N (ev o))→aCp N b:=by
 cases op
 case box x =>
  simp only[al] at F⊢;split at F
  ·rename_i c O;exact⟨_,_,F,fun _ h=>h,fun N G=>Off.mk_ptr G,fun N _ U m H=>aF1 (U x (by simp[aK])) O m H⟩
  ·exact F.elim
 case alloc z =>
  simp only[al] at F⊢;exact⟨_,_,F.2,fun _ h=>⟨F.1,h⟩,fun N G=>Off.mk_ptr G,fun N Y _ m H=>Y z rfl m H⟩
 case bslice k m z ps =>
  simp only[al] at F⊢;obtain⟨c,⟨L,h2⟩,M⟩:=uV F.2;refine⟨_,_,h2,fun I h=>⟨F.1,wH (fun c' J=>?_) M⟩,fun N G=>Off.mk_loc G,fun N _ _ m H=>rfl⟩;rw[J];exact⟨L,h⟩
 case mk k y z x =>
  simp only[al] at F⊢;split at F
  ·exact⟨_,_,F.2,fun _ h=>⟨F.1,h⟩,fun N G=>Off.mk_loc G,fun N _ _ m H=>rfl⟩
  ·exact F.elim
 all_goals exact F.elim
theorem aBY {f g:AV→Option (AV×List Name)}:∀{c:List AV},(∀x,x∈c→f x=g x)→eO f c=eO g c
 | [],_=>rfl
 |x::r,hh=>by simp only[eO,hh x (by simp),aBY (c:=r) fun y F=>hh y (by simp[F])]
theorem yM {f:AV→Option (AV×List Name)} (p:Name→Prop):∀{c F:List AV}{L:List Name},(∀x,x∈c→∀y L,f x=some (y,L)→∀n,n∈L→p n)→eO f c=some (F,L)→∀n,n∈L→p n
 | [],F,L,_,hm,n,hn=>by
  simp only[eO,Option.some.injEq,Prod.mk.injEq] at hm;rw[←hm.2] at hn;cases hn
 | x::r,F,L,hh,hm,n,hn=>by
  simp only[eO] at hm;split at hm
  ·rename_i y G ys J H h2;simp only[Option.some.injEq,Prod.mk.injEq] at hm;rw[←hm.2] at hn;rcases List.mem_append.1 hn with hn|hn
   ·exact hh x (by simp) y G H n hn
   ·exact yM p (fun z I=>hh z (by simp[I])) h2 n hn
  ·cases hm
theorem aE5 (Y:Agr N h h') (hb:∀n b,¬N n→h n=some b→aCp N b):∀(m:Nat) (c:Bool) (x:AV),Off N x→conv h m [] c x=conv h' m [] c x∧∀y L,conv h m [] c x=some (y,L)→∀n,n∈L→¬N n:=by
 intro m
 induction m with
 |zero=>intro c x _;exact⟨rfl,fun y L h=>by simp[conv] at h⟩
 | succ m ih =>
  intro c x G
  have H:∀(c:Bool) (cs:List AV),dL N cs→eO (conv h m [] c) cs=eO (conv h' m [] c) cs∧∀ys L,eO (conv h m [] c) cs=some (ys,L)→∀n,n∈L→¬N n:=fun c cs U =>
   ⟨aBY fun x I=>(ih c x (U.mem x I)).1,fun ys L J=>yM (fun n=>¬N n) (fun x I y L hc=>(ih c x (U.mem x I)).2 y L hc) J⟩
  cases x
  case junk=>exact⟨rfl,fun y L h=>by simp only[conv] at h;split at h<;>simp at h;rw[h.2];simp⟩
  case v x=>exact⟨rfl,fun y L h=>by simp only[conv,Option.some.injEq,Prod.mk.injEq] at h;rw[←h.2];simp⟩
  case sl k l=>exact⟨rfl,fun y L h=>by simp only[conv,Option.some.injEq,Prod.mk.injEq] at h;rw[←h.2];simp⟩
  case ro c=>exact⟨rfl,fun y L h=>by simp only[conv,Option.some.injEq,Prod.mk.injEq] at h;rw[←h.2];simp⟩
  case loc n off len =>
   simp only[conv,jT];cases I:h n with
   |none=>rw[Y.none G.loc I];exact⟨rfl,fun y L h=>by simp at h⟩
   | some b =>
    obtain⟨b',M,e⟩:=Y.some G.loc I;rw[M];cases b with
    | var c z =>
     obtain⟨z',rfl⟩:=aAk e;exact⟨rfl,fun y L h=>by simp at h⟩
    | arr k l z =>
     obtain⟨z',rfl⟩:=xR e;refine⟨rfl,fun y L h=>?_⟩;simp only[Option.some.injEq,Prod.mk.injEq] at h;rw[←h.2];intro n' F;rw[List.mem_singleton.1 F];exact G.loc
  case ptr n e o =>
   simp only[conv,jT];cases I:h n with
   |none=>rw[Y.none G.ptr I];exact⟨rfl,fun y L h=>by simp at h⟩
   | some b =>
    obtain⟨b',M,e'⟩:=Y.some G.ptr I;rw[M];have hd:=hb n b G.ptr I;cases b with
    | var c z =>
     obtain⟨z',rfl⟩:=aAk e';have O:=H true c hd;simp only[O.1,true_and];intro y L h;cases J:eO (conv h' m [] true) c with
     |none=>rw[J] at h;simp at h
     | some q =>
      rw[J] at h;simp only[Option.map_some,Option.some.injEq,Prod.mk.injEq] at h;rw[←h.2];intro n' F;rcases List.mem_cons.1 F with rfl|F
      ·exact G.ptr
      ·exact O.2 q.1 q.2 (by rw[O.1,J]) n' F
    | arr k l z =>
     obtain⟨z',rfl⟩:=xR e';refine⟨rfl,fun y L h=>?_⟩;simp only[Option.some.injEq,Prod.mk.injEq] at h;rw[←h.2];intro n' F;rw[List.mem_singleton.1 F];exact G.ptr
  all_goals
   rename_i cs;have O:=H c cs (by first|exact G.fn|exact G.agg|exact G.tup);simp only[conv,O.1,true_and];intro y L h;cases J:eO (conv h' m [] c) cs with
   |none=>rw[J] at h;simp at h
   | some q =>
    rw[J] at h;simp only[Option.map_some,Option.some.injEq,Prod.mk.injEq] at h;rw[←h.2];exact O.2 q.1 q.2 (by rw[O.1,J])
mutual
theorem aIA (φ:Name→Option Name) (n:Name) (F:∀m,φ m≠some n):∀x:AV,(rn φ x).has n=false
 |.v _=>rfl
 |.sl _ _=>rfl
 |.ro _=>rfl
 |.junk=>rfl
 | .loc m off len=>by
  simp only[rn];cases hm:φ m with
  |none=>rfl
  | some m' =>
   simp only[AV.has,decide_eq_false_iff_not];rintro rfl;exact F m hm
 | .ptr m e c=>by
  simp only[rn];cases hm:φ m with
  |none=>rfl
  | some m' =>
   simp only[AV.has,decide_eq_false_iff_not];rintro rfl;exact F m hm
 |.fn f c=>by simp only[rn,AV.has];exact zP φ n F c
 |.agg c=>by simp only[rn,AV.has];exact zP φ n F c
 |.tup c=>by simp only[rn,AV.has];exact zP φ n F c
theorem zP (φ:Name→Option Name) (n:Name) (F:∀m,φ m≠some n):∀c:List AV,l6 n (rnL φ c)=false
 | []=>rfl
 |x::r=>by simp only[rnL,l6,aIA φ n F x,zP φ n F r,Bool.or_self]
end
end
section
variable [Envs]
variable {P:Program}{C:Ctx}{a:Act}{w:World}{S:Nat→Prop}{ρ:Name→Option Nat}{κ:Name→Nat}
structure Dl where
 v:AV
 nb:List (Name×Blk)
 fz:Bool
 L:List Name
 nn:Name→Prop
def app (d:Option Nat) (δ:Dl) (σ:FSt):FSt:=
 ⟨upd σ.s d δ.v,fun m=>(aB δ.nb m).or ((σ.h m).map fun b=>if δ.fz=true∧m∈δ.L then frz b else b)⟩
def isV:AV→Bool
 |.v _=>true
 |_=>false
def okZ:AOp→Bool
 |.build z _=>z.all isV
 |.alloc z=>z.all isV
 |.bslice _ _ z _=>z.all isV
 |.mk _ _ z _=>z.all isV
 |_=>true
def nC:AOp→Bool
 |.call _ _ bor=>bor.isEmpty
 |.store .. | .append .. | .appendC .. | .bsliceC .. | .clr ..=>false
 |op=>okZ op
theorem aKR {p:Name→Prop}{z:List AV} (h:z.all isV=true):NmL p z:=by
 intro x F;have:=List.all_eq_true.1 h x F;cases x<;>simp[isV] at this;exact .v _ _
theorem aAt {N:Name→Prop}{z:List AV} (h:z.all isV=true):dL N z:=by
 refine dL.of_mem fun x F=>?_;have:=List.all_eq_true.1 h x F;cases x<;>simp[isV] at this;exact Off.v _
inductive Eff (P:Program) (d:Option Nat) (op:AOp) (σ:FSt):Dl→Prop
 | rd (v:AV) (h1:uX op=true) (h2:∀K:AV→Prop,K v→Vs.rd (evO σ.s) σ.h K op)
   (h3:∀p:Name→Prop,(∀o,o∈aK op→Nm p (evO σ.s o))→(∀n b,p n→σ.h n=some b→NmB p b)→Nm p v):Eff P d op σ ⟨v,[],false,[],fun _=>False⟩
 | al (d':Nat) (hd:d=some d') (v:AV) (b:Blk) (h1:∀K:AV→Blk→Prop,K v b→Vs.al (evO σ.s) σ.h (.t d' 0) K op) (hf:jM (.t d' 0) σ) (hn:b.has (.t d' 0)=false)
   (h2:∀N:Name→Prop,¬N (.t d' 0)→Off N v) (h3:∀N:Name→Prop,(∀o,o∈aK op→Off N (evO σ.s o))→aCp N b):Eff P d op σ ⟨v,[(.t d' 0,b)],false,[],fun n=>n=.t d' 0⟩
 | call (d':Nat) (hd:d=some d') (f:Operand) (args:List Operand) (hop:op=.call f args []) (g:FuncId) (caps:List AV) (hg:evO σ.s f=.fn g caps) (ys:List AV) (L:List Name)
   (hm:eO (conv σ.h 8 [] false) (args.map (evO σ.s)++caps)=some (ys,L)) (r:AV) (hout:List (Option Blk)) (fz:Bool) (hfn:Fn P g [] ys r hout)
   (hflat:fz=false→(L=[]∨(flat r=true∧∀b,some b∈hout→iF b))) (hfr:∀j,j<hout.length→jM (.t d' j) σ) :
   Eff P d op σ ⟨rn (phi [] d' hout.length) r,qV (rnB (phi [] d' hout.length)) d' 0 0 hout,fz,L,fun n=>∃j,j<hout.length∧n=.t d' j⟩
def Canon (σ:St):Prop:=(∀p,p∈σ.s→look σ.s p.1=p.2)∧∀p,p∈σ.h→aB σ.h p.1=some p.2
def aCa:List (Nat×AV)→List (Nat×AV)
 | []=>[]
 |(i,x)::r=>(i,x)::(aCa r).filter fun p=>!decide (p.1=i)
def aCb:List (Name×Blk)→List (Name×Blk)
 | []=>[]
 |(i,x)::r=>(i,x)::(aCb r).filter fun p=>!decide (p.1=i)
theorem rX (i:Nat):∀(s:List (Nat×AV)) (t:Nat),t≠i→look (s.filter fun p=>!decide (p.1=i)) t=look s t
 | [],_,_=>rfl
 | (j,x)::r,t,ht=>by
  by_cases F:j=i
  ·simp only[List.filter_cons,F,decide_true,Bool.not_true,Bool.false_eq_true,if_false,look,ht,rX i r t ht]
  ·simp only[List.filter_cons,F,decide_false,Bool.not_false,if_true,look,rX i r t ht]
theorem pR (i:Name):∀(s:List (Name×Blk)) (t:Name),t≠i→aB (s.filter fun p=>!decide (p.1=i)) t=aB s t
 | [],_,_=>rfl
 | (j,x)::r,t,ht=>by
  by_cases F:j=i
  ·simp only[List.filter_cons,F,decide_true,Bool.not_true,Bool.false_eq_true,if_false,aB,ht,pR i r t ht]
  ·simp only[List.filter_cons,F,decide_false,Bool.not_false,if_true,aB,pR i r t ht]
theorem aAM:∀s:List (Nat×AV),look (aCa s)=look s∧∀p,p∈aCa s→look (aCa s) p.1=p.2
 | []=>⟨rfl,by simp[aCa]⟩
 | (i,x)::r=>by
  obtain⟨G,h2⟩:=aAM r
  have e:look (aCa ((i,x)::r))=look ((i,x)::r):=by
   funext t
   simp only[aCa,look];split
   ·rfl
   ·rename_i H;rw[rX i _ _ H,G]
  refine⟨e,fun p F=>?_⟩;simp only[aCa,List.mem_cons,List.mem_filter,Bool.not_eq_true',decide_eq_false_iff_not] at F;rcases F with rfl|⟨F,hne⟩
  ·simp[aCa,look]
  ·simp only[aCa,look,hne,if_false];rw[rX i _ _ hne];exact h2 p F
theorem aAN:∀s:List (Name×Blk),aB (aCb s)=aB s∧∀p,p∈aCb s→aB (aCb s) p.1=some p.2
 | []=>⟨rfl,by simp[aCb]⟩
 | (i,x)::r=>by
  obtain⟨G,h2⟩:=aAN r
  have e:aB (aCb ((i,x)::r))=aB ((i,x)::r):=by
   funext t
   simp only[aCb,aB];split
   ·rfl
   ·rename_i H;rw[pR i _ _ H,G]
  refine⟨e,fun p F=>?_⟩;simp only[aCb,List.mem_cons,List.mem_filter,Bool.not_eq_true',decide_eq_false_iff_not] at F;rcases F with rfl|⟨F,hne⟩
  ·simp[aCb,aB]
  ·simp only[aCb,aB,hne,if_false];rw[pR i _ _ hne];exact h2 p F
def canon (σ:St):St:=⟨aCa σ.s,aCb σ.h⟩
theorem lF (σ:St):(canon σ).f=σ.f:=by simp only[canon,St.f,(aAM σ.s).1,(aAN σ.h).1]
theorem aAo (σ:St):Canon (canon σ):=⟨(aAM σ.s).2,(aAN σ.h).2⟩
theorem xS {n:Name}{σ:St} (G:Canon σ) (J:n.isT=true) (H:jM n σ.f):bT n σ=true:=by
 simp only[bT,Bool.and_eq_true,List.all_eq_true,Bool.not_eq_true',decide_eq_false_iff_not];refine⟨⟨J,fun p F=>?_⟩,fun p F=>⟨?_,?_⟩⟩
 ·rw[←G.1 p F];exact H.2.1 p.1
 ·intro e;have I:=H.1.1;have h2:=G.2 p F;rw[e] at h2;simp only[St.f] at I;rw[I] at h2;cases h2
 ·exact H.2.2 p.1 p.2 (G.2 p F)
theorem zC {op:AOp} (h:uX op=true) {d:Option Nat}{σ:St}{K:St→Prop}:bG P d σ K op↔rd (evO (look σ.s)) (aB σ.h) (fun v=>K ⟨put d v σ.s,σ.h⟩) op:=by
 cases op<;>first|rfl|simp[uX] at h
theorem aF7 {d:Option Nat}{σ:St}{v:AV}{F:Name→Prop}:(St.mk (put d v σ.s) σ.h).f=app d ⟨v,[],false,[],F⟩ σ.f:=by
 simp only[St.f,app,jX,aB,Option.none_or,Bool.false_eq_true,false_and,if_false];congr 1
 funext m
 cases aB σ.h m<;>rfl
theorem aF8 {d:Nat}{σ:St}{v:AV}{b:Blk}{n:Name}{G:Name→Prop}:(St.mk ((d,v)::σ.s) ((n,b)::σ.h)).f=app (some d) ⟨v,[(n,b)],false,[],G⟩ σ.f:=by
 simp only[St.f,app,Bool.false_eq_true,false_and,if_false];congr 1
 funext m
 simp only[aB];by_cases F:m=n
 ·simp[F]
 ·simp only[F,if_false,Option.none_or];cases aB σ.h m<;>rfl
theorem aFc {d:Nat}{σ:St}{v:AV}{F:List (Option Blk)}{fz:Bool}{L:List Name}{G:Name→Prop} :
  (St.mk ((d,v)::σ.s) (x9 σ.h [] d F fz L)).f=app (some d) ⟨v,qV (rnB (phi [] d F.length)) d 0 0 F,fz,L,G⟩ σ.f:=by
 simp only[St.f,app];congr 1
 funext m
 unfold x9;rw[aAf];simp only[List.length_nil];congr 1;rw[yQ _ (fun m b H h=>by simp[aFd,jT] at h)];cases aB σ.h m with
 |none=>rfl
 |some b=>simp[aFd,jT]
theorem aA7 {d:Option Nat}{σ:St}{K:St→Prop}{op:AOp} (F:nC op=true) (hd:uX op=true∨d.isSome=true) (G:bG P d σ K op) :
  ∃δ,Eff P d op σ.f δ∧∃σ':St,σ'.f=app d δ σ.f∧K σ':=by
 by_cases U:uX op=true
 ·rw[zC U] at G;obtain⟨x,M,h2,Y⟩:=zS G;refine⟨_,.rd x U h2 (fun p ho hb=>Y p (fun z ps e=>?_) ho hb),_,aF7,M⟩;subst e;exact aKR (by simpa[nC,okZ] using F)
 ·have hd:=hd.resolve_left U;obtain⟨d',rfl⟩:=Option.isSome_iff_exists.1 hd
  have I:∀{op:AOp},nC op=true→al (evO (look σ.s)) (aB σ.h) (.t d' 0) (fun v b=>(bT (.t d' 0) σ=true∧b.has (.t d' 0)=false)∧K ⟨(d',v)::σ.s,(.t d' 0,b)::σ.h⟩) op→
    ∃δ,Eff P (some d') op σ.f δ∧∃σ':St,σ'.f=app (some d') δ σ.f∧K σ':=by
   intro op F G;obtain⟨x,b,⟨⟨M,h2⟩,Y⟩,h4,h5,h6⟩:=wX G;refine⟨_,.al d' rfl x b h4 (dI M) h2 h5 (fun N ho=>h6 N (fun z e=>?_) ho),_,aF8,Y⟩;subst e;exact aAt (by simpa[nC,okZ] using F)
  cases op
  case box x=>exact I F G
  case alloc z=>exact I F G
  case bslice k m z ps=>exact I F G
  case mk k y z n=>exact I F G
  case call f args bor =>
   simp only[nC,List.isEmpty_iff] at F;subst F;simp only[bG,aCi] at G;split at G
   ·rename_i g caps hg;have hB:aFa σ.h (args.map (evO (look σ.s))) []=[]:=rfl;rw[hB] at G;split at G
    ·rename_i ys L1 hin L2 M h2;simp only[vI,Option.some.injEq,Prod.mk.injEq] at h2;obtain⟨rfl,rfl⟩:=h2;obtain⟨_,r,J,fz,ha,H,L,hK⟩:=G;simp only[List.append_nil,Option.getD_some,List.length_nil] at H L hK
     have O:∀j,j<J.length→jM (.t d' j) σ.f:=by
      intro j hj;simp only[kF,List.all_eq_true,List.mem_range] at L;have:=L j hj;simp only[Nat.not_lt_zero,decide_false,Bool.false_or] at this;exact dI this
     exact⟨_,.call d' rfl f args rfl g caps hg ys L1 M r J fz ha H O,_,aFc,hK⟩
    ·exact G.elim
   ·exact G.elim
  all_goals first|(simp[nC] at F;done)|(simp[uX] at U;done)
theorem vR {d:Option Nat}{σ:St}{op:AOp}{δ:Dl} (I:Canon σ) (M:Eff P d op σ.f δ):bG P d σ (fun σ'=>σ'.f=app d δ σ.f) op:=by
 cases M with
 | rd v h1 h2 h3 =>
  rw[zC h1];exact h2 _ aF7
 | al d' hd v b h1 hf hn h2 h3 =>
  subst hd;have F:=xS I rfl hf;have:=h1 (fun v b=>(bT (.t d' 0) σ=true∧b.has (.t d' 0)=false)∧(St.mk ((d',v)::σ.s) ((.t d' 0,b)::σ.h)).f=app (some d') ⟨v,[(.t d' 0,b)],false,[],fun n=>n=.t d' 0⟩ σ.f) ⟨⟨F,hn⟩,aF8⟩
  cases op<;>first
   |exact this.elim
   | (simp only[bG]
      exact h1 _ ⟨⟨F,hn⟩,aF8⟩)
 | call d' hd f args hop g caps hg ys L hm r hout fz hfn hflat hfr =>
  subst hd;subst hop;simp only[bG,aCi];have G:evO (look σ.s) f=.fn g caps:=hg;have H:eO (conv (aB σ.h) 8 [] false) (args.map (evO (look σ.s))++caps)=some (ys,L):=hm;have J:aFa σ.h (args.map (evO (look σ.s))) []=[]:=rfl;rw[G,J];simp only[H,vI];refine⟨rfl,r,hout,fz,hfn,by simpa using hflat,?_,?_⟩
  ·simp only[kF,List.all_eq_true,List.mem_range];intro j O;simp only[Option.getD_some,xS I rfl (hfr j O),Bool.or_true]
  ·simp only[List.append_nil,Option.getD_some,List.length_nil];exact aFc
end
section
variable [Envs]
variable {P:Program}{C:Ctx}{a:Act}{w:World}{S:Nat→Prop}{ρ:Name→Option Nat}{κ:Name→Nat}
structure WF (σ:FSt):Prop where
 s:∀t,Nm (fun _=>True) (σ.s t)
 h:∀n b,σ.h n=some b→NmB (fun _=>True) b
theorem aK4 {x:AV}{v:Value} (h:RC S w x v):Nm (fun _=>False) x:=by
 have F:∀(c:List AV),(∀j,j<c.length→Nm (fun _=>False) (c.getD j .junk))→∀y,y∈c→Nm (fun _=>False) y:=by
  intro c H y J;obtain⟨j,G,rfl⟩:=List.mem_iff_getElem.1 J;have:=H j G;simpa[List.getD,G] using this
 induction h with
 |v x=>exact .v _ _
 | sl k l base cap x off xs hb H ho hr hk hcap ih =>
  refine .sl _ _ _ fun r I y J=>?_;obtain⟨i,hi,rfl⟩:=List.mem_iff_getElem.1 I;have e:l.getD i []=l[i]:=by simp[List.getD,hi]
  refine F _ (fun j G=>?_) y J;have:=ih i j hi (by rw[←hk i hi,e];exact G)
  rwa [e] at this
 |ro c x off xs hx H ho hr ih=>exact .ro _ _ (F c ih)
 |fn f c vs hl hr ih=>exact .fn _ _ _ (F c ih)
 |agg c vs hl hr ih=>exact .agg _ _ (F c ih)
 |tup c vs hl hr ih=>exact .tup _ _ (F c ih)
theorem aK0 {h:Name→Option Blk}{x:AV}{v:Value} (G:RV S w ρ κ h x v):Nm (fun _=>True) x:=by
 have F:∀(c:List AV),(∀j,j<c.length→Nm (fun _=>True) (c.getD j .junk))→∀y,y∈c→Nm (fun _=>True) y:=by
  intro c I y J;obtain⟨j,H,rfl⟩:=List.mem_iff_getElem.1 J;have:=I j H;simpa[List.getD,H] using this
 induction G with
 |junk v=>exact .junk _
 |clo G=>exact(aK4 G).mono fun _ h=>h.elim
 |loc n off len v hv=>exact .loc _ _ _ _ trivial
 |ptr n e c v hv=>exact .ptr _ _ _ _ trivial
 |fn f c vs hl hr ih=>exact .fn _ _ _ (F c ih)
 |agg c vs hl hr ih=>exact .agg _ _ (F c ih)
 |tup c vs hl hr ih=>exact .tup _ _ (F c ih)
theorem OK.wf {σ:FSt} (G:OK C σ a w S ρ κ):WF σ:=by
 refine⟨fun t=>aK0 (G.slots t),fun n b O=>?_⟩;have L:=G.hok.blk n b O;cases b with
 | var c z =>
  obtain⟨x,cs,T,fr,_,_,_,_,_,_,_,H⟩:=L;intro y J;obtain⟨j,F,rfl⟩:=List.mem_iff_getElem.1 J;have:=aK0 (H j F).2;simpa[List.getD,F] using this
 | arr k l z =>
  obtain⟨M,⟨_,rfl⟩|⟨x,cs,T,fr,_,_,_,_,_,_,_,H⟩⟩:=L
  ·intro r I;cases I
  ·intro r I y J;obtain⟨i,hi,rfl⟩:=List.mem_iff_getElem.1 I;obtain⟨j,F,rfl⟩:=List.mem_iff_getElem.1 J;have e:l.getD i []=l[i]:=by simp[List.getD,hi]
   have:=aK4 (H i j hi (by rw[←M i hi,e];exact F)).2;rw[e] at this;simpa[List.getD,F] using this
theorem Nm.and {p q:Name→Prop}{x:AV} (F:Nm p x) (G:Off (fun n=>¬q n) x):Nm (fun n=>p n∧q n) x:=by
 induction F with
 |junk=>exact .junk _
 |v=>exact .v _ _
 |sl _ k l hl _=>exact .sl _ k l hl
 |ro _ c hc _=>exact .ro _ c hc
 |loc _ n off len hn=>exact .loc _ n off len ⟨hn,Classical.not_not.1 G.loc⟩
 |ptr _ n e c hn=>exact .ptr _ n e c ⟨hn,Classical.not_not.1 G.ptr⟩
 |fn _ f c hc ih=>exact .fn _ f c fun x F=>ih x F (G.fn.mem x F)
 |agg _ c hc ih=>exact .agg _ c fun x F=>ih x F (G.agg.mem x F)
 |tup _ c hc ih=>exact .tup _ c fun x F=>ih x F (G.tup.mem x F)
theorem aCp.mem {N:Name→Prop}{c:List AV}{z:Bool} (G:aCp N (.var c z)):dL N c:=fun n F=>G n F
theorem NmB.and {p q:Name→Prop}{b:Blk} (G:NmB p b) (H:aCp (fun n=>¬q n) b):NmB (fun n=>p n∧q n) b:=by
 cases b with
 |var c z=>exact fun x F=>(G x F).and (H.mem.mem x F)
 |arr k l z=>exact G
theorem NmB.frz {p:Name→Prop}{b F:Blk} (G:frz F=frz b) (H:NmB p b):NmB p F:=by
 cases b<;>cases F<;>simp[Vs.frz] at G<;>simp_all [NmB]
theorem Eff.move {d:Option Nat}{op:AOp}{σ σ':FSt}{δ:Dl}{N:Name→Prop} (he:Eff P d op σ δ) (F:nC op=true)
  (J:∀o,o∈aK op→evO σ.s o=evO σ'.s o∧Off N (evO σ.s o)) (O:Agr N σ.h σ'.h) (hb:∀n b,¬N n→σ.h n=some b→aCp N b)
  (hf:∀n,δ.nn n→jM n σ'):Eff P d op σ' δ:=by
 cases he with
 | rd v h1 h2 h3 =>
  refine .rd v h1 (fun K U=>aLx O J (h2 K U)) fun p hp hh=>?_;have e:(fun n=>¬¬N n)=N:=funext fun n=>propext Classical.not_not;have:=h3 (fun n=>p n∧¬N n) (fun o G=>?_) (fun n b M H=>?_)
  ·exact this.mono fun n h=>h.1
  ·obtain⟨e1,e2⟩:=J o G;refine Nm.and ?_ (by rw[e];exact e2);rw[e1];exact hp o G
  ·obtain⟨b',h4,h5⟩:=O.some M.2 H;refine NmB.and (NmB.frz h5.symm (hh n b' M.1 h4)) (by rw[e];exact hb n b M.2 H)
 | al d' hd v b h1 hf' M h2 h3 =>
  refine .al d' hd v b (fun K U=>aLX O ?_ ?_ ?_ J (h1 K U)) (hf _ rfl) M h2 fun N' Y=>h3 N' fun o G=>by rw[(J o G).1];exact Y o G
  ·rintro z rfl;exact aAt (by simpa[nC,okZ] using F)
  ·rintro k m z ps rfl;exact aAt (by simpa[nC,okZ] using F)
  ·rintro k m z ps rfl;exact aAt (by simpa[nC,okZ] using F)
 | call d' hd f args hop g caps hg ys L G r hout fz hfn hflat hfr =>
  subst hop;have⟨ef,of⟩:=J f (by simp[aK]);rw[hg] at of;have I:args.map (evO σ.s)=args.map (evO σ'.s):=List.map_congr_left fun o G=>(J o (by simp[aK,G])).1;refine .call d' hd f args rfl g caps (by rw[←ef];exact hg) ys L ?_ r hout fz hfn hflat fun j hj=>?_
  ·rw[←I,←aBY (f:=conv σ.h 8 [] false) fun x H=>?_]
   ·exact G
   ·refine(aE5 O hb 8 false x ?_).1;rcases List.mem_append.1 H with H|H
    ·obtain⟨o,hc,rfl⟩:=List.mem_map.1 H;exact(J o (by simp[aK,hc])).2
    ·exact of.fn.mem x H
  ·exact hf _ ⟨j,hj,rfl⟩
theorem Eff.new {d:Option Nat}{op:AOp}{σ:FSt}{δ:Dl} (I:Eff P d op σ δ):(∀n,δ.nn n→∃d' j,d=some d'∧n=.t d' j∧jM n σ)∧∀n b,aB δ.nb n=some b→δ.nn n:=by
 cases I with
 |rd v h1 h2 h3=>exact⟨fun n G=>G.elim,fun n b F=>by simp[aB] at F⟩
 | al d' hd v b h1 hf' G h2 h3 =>
  refine⟨fun n G=>⟨d',0,hd,G,by rw[G];exact hf'⟩,fun n J F=>?_⟩;simp only[aB] at F;split at F
  ·assumption
  ·cases F
 | call d' hd f args hop g caps hg ys L hm r hout fz hfn hflat hfr =>
  refine⟨fun n ⟨j,hj,e⟩=>⟨d',j,hd,e,by rw[e];exact hfr j hj⟩,fun n b F=>?_⟩;rw[yR] at F;cases n with
  |b j=>simp[sH] at F
  | t d'' j =>
   simp only[sH] at F;split at F
   ·rename_i H;exact⟨j,by omega,by rw[H.1]⟩
   ·cases F
theorem aJ1 {N:Name→Prop}{φ:Name→Option Name} (G:∀n m,N n→φ m≠some n) (b:Blk):aCp N (rnB φ b):=by
 cases b with
 |var c z=>exact fun n F=>zP φ n (fun m=>G n m F) c
 |arr k l z=>exact fun n F=>rfl
theorem xL {g:Blk→Blk}{d nB:Nat}:∀{l:List (Option Blk)}{i:Nat}{n:Name}{b:Blk},(n,b)∈qV g d nB i l→∃F,b=g F
 | [],_,_,_,h=>by simp[qV] at h
 |none::r,i,n,b,h=>xL (l:=r) (i:=i+1) (by simpa[qV] using h)
 | some x::r,i,n,b,h=>by
  simp only[qV] at h;split at h
  ·rcases List.mem_cons.1 h with h|h
   ·simp only[Prod.mk.injEq] at h;exact⟨x,h.2⟩
   ·exact xL h
  ·exact xL h
theorem Eff.off {d:Option Nat}{op:AOp}{σ:FSt}{δ:Dl}{N:Name→Prop} (he:Eff P d op σ δ) (hN:∀n,δ.nn n→¬N n) (J:∀d' j,d=some d'→¬N (.t d' j)) (hs:WF σ)
  (O:∀o,o∈aK op→Off N (evO σ.s o)) (M:∀n b,¬N n→σ.h n=some b→aCp N b) :
  Off N δ.v∧(∀n b,aB δ.nb n=some b→aCp N b)∧∀n,n∈δ.L→¬N n:=by
 have I:∀o,Nm (fun _=>True) (evO σ.s o):=by
  intro o;cases o with
  |tmp t=>exact hs.s t
  | const v =>
   simp only[evO]
   cases v<;>first
    |exact .v _ _
    | (simp only[AV.ofValue]
       refine .agg _ _ fun x F=>?_;obtain⟨y,_,rfl⟩:=List.mem_map.1 F;exact .v _ _)
  |global g=>exact .junk _
  |func f=>exact .fn _ _ _ (by simp)
 cases he with
 | rd v h1 h2 h3 =>
  refine⟨?_,fun n b M=>by simp[aB] at M,by simp⟩;have:=h3 (fun n=>¬N n) (fun o U=>(I o).of_off (O o U)) fun n b G F=>?_
  ·exact this.off fun n G=>G
  ·have e:(fun n=>¬¬N n)=N:=funext fun n=>propext Classical.not_not;have:=NmB.and (q:=fun n=>¬N n) (hs.h n b F) (by rw[e];exact M n b G F);cases b with
   |var c z=>exact fun x F=>(this x F).mono fun _ h=>h.2
   |arr k l z=>exact this
 | al d' hd v b h1 hf' G h2 h3 =>
  refine⟨h2 N (hN _ rfl),fun n b' H=>?_,by simp⟩;simp only[aB] at H;split at H
  ·obtain rfl:=Option.some.inj H;exact h3 N O
  ·cases H
 | call d' hd f args hop g caps hg ys L U r hout fz hfn hflat hfr =>
  subst hop
  have hφ:∀n m,N n→phi [] d' hout.length m≠some n:=by
   intro n m G e;cases m with
   |t a b=>simp[phi] at e
   | b j =>
    simp only[phi,List.length_nil,Nat.not_lt_zero,if_false] at e;split at e
    ·exact J d' j hd (by rw[Option.some.inj e];exact G)
    ·cases e
  refine⟨fun n G=>aIA _ n (fun m=>hφ n m G) r,fun n b F=>?_,fun n G=>?_⟩
  ·obtain⟨b',rfl⟩:=xL (nT _ _ _ F);exact aJ1 hφ b'
  ·have of:=O f (by simp[aK]);rw[hg] at of;refine yM (fun n=>¬N n) (fun x F y L' hc=>?_) U n G;refine(aE5 (h':=σ.h) (fun _ _=>rfl) M 8 false x ?_).2 y L' hc;rcases List.mem_append.1 F with F|F
   ·obtain⟨o,Y,rfl⟩:=List.mem_map.1 F;exact O o (by simp[aK,Y])
   ·exact of.fn.mem x F
theorem yH (d:Option Nat) (δ:Dl) (σ:FSt) (n:Name):(app d δ σ).h n=(aB δ.nb n).or ((σ.h n).map fun b=>if δ.fz=true∧n∈δ.L then frz b else b):=rfl
theorem aLH (b:Blk) (p:Prop) [Decidable p]:frz (if p then frz b else b)=frz b:=by
 split
 ·cases b<;>rfl
 ·rfl
theorem aG6 {d:Option Nat}{δ:Dl}{σ:FSt} (F:∀n b,aB δ.nb n=some b→δ.nn n):Agr δ.nn σ.h (app d δ σ).h:=by
 intro n h;rw[yH];cases hx:aB δ.nb n with
 |some b=>exact absurd (F n b hx) h
 | none =>
  rw[Option.none_or];cases σ.h n with
  |none=>rfl
  |some b=>simp only[Option.map_some,aLH]
theorem l5 {d:Option Nat}{δ:Dl}{σ:FSt}{t:Nat} (h:d≠some t):(app d δ σ).s t=σ.s t:=by
 cases d with
 |none=>rfl
 | some d =>
  simp only[app,upd];rw[if_neg];rintro rfl;exact h rfl
theorem lC {d:Nat}{δ:Dl}{σ:FSt}:(app (some d) δ σ).s d=δ.v:=by simp[app,upd]
theorem aBu {d:Option Nat}{δ:Dl}{σ:FSt}{o:Operand} (h:∀t,d=some t→o≠.tmp t):evO (app d δ σ).s o=evO σ.s o:=by
 cases o with
 | tmp t =>
  simp only[evO];exact l5 fun e=>h t e rfl
 |_=>rfl
theorem jM.off {n:Name}{σ:FSt} (h:jM n σ) (o:Operand):(evO σ.s o).has n=false:=by
 cases o with
 |tmp t=>exact h.2.1 t
 | const v =>
  simp only[evO]
  cases v<;>first
   |rfl
   | (simp only[AV.ofValue,AV.has]
      have:dL (fun m=>m=n) (List.map (fun x=>AV.v x) (Array.toList ‹_›)):=dL.of_mem fun x F=>by
        obtain⟨y,_,rfl⟩:=List.mem_map.1 F;exact Off.v _
      exact this n rfl)
 |global g=>rfl
 |func f=>rfl
theorem aFN (b:Blk) (p:Prop) [Decidable p] (n:Name):(if p then frz b else b).has n=b.has n:=by
 split
 ·exact aKD (by cases b<;>rfl) n
 ·rfl
theorem aJn {M J:Option Nat}{x y:AOp}{σ:FSt}{G I:Dl} (hx:Eff P M x σ G) (hy:Eff P J y (app M G σ) I) (hs:WF σ) (fx:nC x=true) (fy:nC y=true)
  (a1:∀t,M=some t→∀o,o∈aK y→o≠.tmp t) (a2:∀t,J=some t→∀o,o∈aK x→o≠.tmp t) (a3:∀t,M=some t→J≠some t)
  (j1:∀t,M=some t→σ.s t=.junk) (j2:∀t,J=some t→σ.s t=.junk) :
  Eff P J y σ I∧Eff P M x (app J I σ) G∧app M G (app J I σ)=app J I (app M G σ):=by
 obtain⟨nx,bx⟩:=hx.new;obtain⟨ny,ha⟩:=hy.new
 have Y:∀n,G.nn n→¬I.nn n:=by
  intro n U h2;obtain⟨d1,i1,e1,rfl,_⟩:=nx n U;obtain⟨d2,i2,e2,e3,_⟩:=ny _ h2;simp only[Name.t.injEq] at e3;exact a3 d1 e1 (by rw[e2,e3.1])
 have sx:∀o,Off G.nn (evO σ.s o):=fun o n H=>by obtain⟨_,_,_,_,O⟩:=nx n H;exact O.off o
 have hd:∀n b,σ.h n=some b→aCp G.nn b:=fun n b F m hm=>by obtain⟨_,_,_,_,O⟩:=nx m hm;exact O.2.2 n b F
 have hg:∀n,G.nn n→σ.h n=none:=fun n H=>by obtain⟨_,_,_,_,O⟩:=nx n H;exact O.1.1
 have hk:=aG6 (d:=M) (σ:=σ) bx
 have hc:∀n,I.nn n→jM n σ:=by
  intro n H;obtain⟨d2,i2,e2,rfl,O⟩:=ny n H;have hu:¬G.nn (.t d2 i2):=fun h=>Y _ h H;refine⟨⟨?_,O.1.2⟩,fun t=>?_,fun m b F=>?_⟩
  ·have:=O.1.1;rw[yH] at this;cases hσ:σ.h (.t d2 i2) with
   |none=>rfl
   |some b=>rw[hσ] at this;simp at this
  ·by_cases ht:M=some t
   ·rw[j1 t ht];rfl
   ·have:=O.2.1 t
    rwa [l5 ht] at this
  ·have U:¬G.nn m:=fun h=>by rw[hg m h] at F;cases F
   have h2:aB G.nb m=none:=by
    cases h:aB G.nb m with
    |none=>rfl
    |some b=>exact absurd (bx m b h) U
   have:=O.2.2 m (if G.fz=true∧m∈G.L then frz b else b) (by rw[yH,h2,F];rfl)
   rwa [aFN] at this
 have hj:Eff P J y σ I:=by
  refine hy.move (N:=G.nn) fy (fun o ho=>?_) hk.symm (fun n b H F=>?_) hc
  ·have e:=aBu (δ:=G) (σ:=σ) (fun t ht=>a1 t ht o ho);exact⟨e,by rw[e];exact sx o⟩
  ·rw[yH] at F
   have h2:aB G.nb n=none:=by
    cases h:aB G.nb n with
    |none=>rfl
    |some b=>exact absurd (bx n b h) H
   rw[h2,Option.none_or] at F;cases hσ:σ.h n with
   |none=>rw[hσ] at F;cases F
   | some b0 =>
    rw[hσ] at F;obtain rfl:=Option.some.inj F;intro m hm;rw[aFN];exact hd n b0 hσ m hm
 obtain ⟨ov,ob,oL⟩:=hj.off (N:=G.nn) (fun n H h=>Y n h H) (fun d' j he h=>by
   obtain⟨d1,i1,e1,e2,_⟩:=nx _ h;simp only[Name.t.injEq] at e2;exact a3 d1 e1 (by rw[he,e2.1])) hs (fun o _=>sx o) (fun n b _ F=>hd n b F)
 have hl:=aG6 (d:=J) (σ:=σ) ha;have sy:∀o,Off I.nn (evO σ.s o):=fun o n H=>(hc n H).off o
 have hq:Eff P M x (app J I σ) G:=by
  refine hx.move (N:=I.nn) fx (fun o ho=>⟨(aBu (δ:=I) (σ:=σ) (fun t ht=>a2 t ht o ho)).symm,sy o⟩) hl (fun n b _ F m hm=>(hc m hm).2.2 n b F) fun n H=>?_;obtain⟨d1,i1,e1,rfl,O⟩:=nx n H;have hp:=Y _ H;refine⟨⟨?_,O.1.2⟩,fun t=>?_,fun m b F=>?_⟩
  ·rw[yH,O.1.1];cases h:aB I.nb (.t d1 i1) with
   |none=>rfl
   |some b=>exact absurd (ha _ b h) hp
  ·by_cases ht:J=some t
   ·subst ht;rw[lC];exact ov _ H
   ·rw[l5 ht];exact O.2.1 t
  ·rw[yH] at F;cases h:aB I.nb m with
   | some b' =>
    rw[h] at F;obtain rfl:=Option.some.inj F;exact ob m _ h _ H
   | none =>
    rw[h,Option.none_or] at F;cases hσ:σ.h m with
    |none=>rw[hσ] at F;cases F
    | some b0 =>
     rw[hσ] at F;obtain rfl:=Option.some.inj F;rw[aFN];exact hd m b0 hσ _ H
 refine⟨hj,hq,?_⟩
 obtain ⟨_,_,hr⟩:=hx.off (N:=I.nn) (fun n H=>Y n H) (fun d' j he h=>by
   obtain⟨d1,i1,e1,e2,_⟩:=ny _ h;simp only[Name.t.injEq] at e2;exact a3 d' he (by rw[e1,e2.1])) hs (fun o _=>sy o) (fun n b _ F m hm=>(hc m hm).2.2 n b F)
 have e1:(app M G (app J I σ)).s=(app J I (app M G σ)).s:=by
  funext t
  by_cases U:M=some t
  ·have h2:=a3 t U;subst U;rw[lC,l5 h2,lC]
  ·by_cases h2:J=some t
   ·rw[l5 U];subst h2;rw[lC,lC]
   ·rw[l5 U,l5 h2,l5 h2,l5 U]
 have e2:(app M G (app J I σ)).h=(app J I (app M G σ)).h:=by
  funext n
  simp only[yH];cases U:aB G.nb n with
  | some b1 =>
   have H:=bx n b1 U
   have h2:aB I.nb n=none:=by
    cases h:aB I.nb n with
    |none=>rfl
    |some b=>exact absurd (ha n b h) (Y n H)
   have h3:n∉I.L:=fun h=>oL n h H;simp only[h2,Option.none_or,Option.some_or,Option.map_some,h3,and_false,if_false]
  | none =>
   cases h2:aB I.nb n with
   | some b2 =>
    have h3:n∉G.L:=fun h=>hr n h (ha n b2 h2);simp only[Option.none_or,Option.some_or,Option.map_some,h3,and_false,if_false]
   | none =>
    simp only[Option.none_or];cases σ.h n with
    |none=>rfl
    | some b =>
     simp only[Option.map_some,Option.some.injEq];cases b<;>split<;>split<;>simp[frz]
 show(⟨_,_⟩:FSt)=⟨_,_⟩
 exact congr (congrArg FSt.mk e1) e2
end
section
variable [Envs]
variable {P:Program}{C:Ctx}{a:Act}{w:World}{S:Nat→Prop}{ρ:Name→Option Nat}{κ:Name→Nat}
theorem aG2 {b c:Bool} (h:b≠c):b = !c:=by cases b<;>cases c<;>simp at h<;>rfl
def dZ (o:aJ):Bool:=nC o.op&&(uX o.op||o.dst.isSome)
def aGr:AOp:=.mv (.const (.tuple #[]))
def aBd (b:Bool) (o:aJ):AOp:=if b then o.op else aGr
def EffS (P:Program) (b:Bool) (o:aJ) (σ:FSt) (δ:Dl):Prop:=Eff P o.dst (aBd b o) σ δ
def runs (o:aJ) (σ:FSt) (b:Bool):Prop:=
 match o.guard with
 |none=>b=true
 |some (g,want)=>(∃c,σ.s g=.v (.bool c)∧b=(c==want))∨((∃cs,σ.s g=.v (.tuple cs))∧b=false)
def wZ (P:Program) (o:aJ) (σ:FSt) (δ:Dl):Prop:=∃b,runs o σ b∧EffS P b o σ δ
def aCQ (d:Option Nat) (σ σ':St):Prop:=∀t,d≠some t→look σ.s t=.junk→look σ'.s t=.junk
def vcE (P:Program) (K:FSt→Prop):List aJ→FSt→Prop
 | [],σ=>K σ
 | o::r,σ=>if dZ o=true then ∃δ,wZ P o σ δ∧vcE P K r (app o.dst δ σ)
  else ∃σl:St,σl.f=σ∧vc P (fun σ'=>vcE P K r σ'.f∧aCQ o.dst σl σ') [o] σl
theorem qP (d:Option Nat) (x:AV) (σ:St) (h:List (Name×Blk)):aCQ d σ ⟨put d x σ.s,h⟩:=by
 intro t G F;show look (put d x σ.s) t=_
 rw[jX];cases d with
 |none=>exact F
 | some d =>
  simp only[upd];rw[if_neg (by rintro rfl;exact G rfl)];exact F
theorem aBG {d:Option Nat}{σ:St}{K:St→Prop}{op:AOp} (F:bG P d σ K op):bG P d σ (fun σ'=>K σ'∧aCQ d σ σ') op:=by
 by_cases hr:uX op=true
 ·rw[zC hr] at F⊢;obtain⟨x,I,h2,_⟩:=zS F;exact h2 _ ⟨I,qP _ _ _ _⟩
 ·have G:∀{op:AOp}{d':Nat},al (evO (look σ.s)) (aB σ.h) (.t d' 0) (fun v b=>(bT (.t d' 0) σ=true∧b.has (.t d' 0)=false)∧K ⟨(d',v)::σ.s,(.t d' 0,b)::σ.h⟩) op→
    al (evO (look σ.s)) (aB σ.h) (.t d' 0) (fun v b=>(bT (.t d' 0) σ=true∧b.has (.t d' 0)=false)∧K ⟨(d',v)::σ.s,(.t d' 0,b)::σ.h⟩∧aCQ (some d') σ ⟨(d',v)::σ.s,(.t d' 0,b)::σ.h⟩) op:=by
   intro op d' F;obtain⟨x,b,⟨I,J⟩,L,_⟩:=wX F;exact L _ ⟨I,J,qP (some d') _ _ _⟩
  cases op
  case box x=>cases d with
   |none=>exact F
   |some d=>exact G (op:=.box x) (d':=d) F
  case alloc z=>cases d with
   |none=>exact F
   |some d=>exact G (op:=.alloc z) (d':=d) F
  case bslice k m z ps=>cases d with
   |none=>exact F
   |some d=>exact G (op:=.bslice k m z ps) (d':=d) F
  case mk k y z n=>cases d with
   |none=>exact F
   |some d=>exact G (op:=.mk k y z n) (d':=d) F
  case call f args bor =>
   simp only[bG,aCi] at F⊢;split at F
   ·split at F
    ·obtain⟨I,r,M,fz,h2,J,L,Y⟩:=F;exact⟨I,r,M,fz,h2,J,L,Y,qP _ _ _ _⟩
    ·exact F
   ·exact F
  case store k A X =>
   simp only[bG] at F⊢;refine⟨F.1,?_⟩;have F:=F.2;split at F
   ·split at F
    ·exact⟨F.1,F.2,fun t _ H=>H⟩
    ·exact F
   ·exact F
  case clr k z X =>
   simp only[bG] at F⊢;split at F
   ·split at F
    ·refine⟨F.1,F.2,fun t O H=>?_⟩;have:=qP d (.v (.tuple #[])) σ σ.h t O H;exact this
    ·exact F
   ·exact F
  case append k y A X =>
   cases d with
   |none=>exact F
   | some d =>
    simp only[bG] at F⊢;split at F
    ·rename_i on l U _ _;refine⟨F.1,F.2,fun t O H=>?_⟩
     have e:look ((d,AV.loc (.t d 0) 0 (l.length+U.length))::(aO on σ).s) t=look (aO on σ).s t:=by
      simp only[look];rw[if_neg (by rintro rfl;exact O rfl)]
     show look ((d,AV.loc (.t d 0) 0 (l.length+U.length))::(aO on σ).s) t=_
     rw[e];cases on with
     |none=>exact H
     | some n =>
      simp only[aO,aW];rw[mM (scr n) (by simp[scr,AV.has]),H];simp[scr,AV.has]
    ·exact F
  case appendC k y A X =>
   cases d with
   |none=>exact F
   | some d =>
    simp only[bG] at F⊢;split at F
    ·rename_i on l U _ _;refine⟨F.1,F.2,fun t O H=>?_⟩
     have e:look ((d,AV.sl k (l++U))::(aO on σ).s) t=look (aO on σ).s t:=by
      simp only[look];rw[if_neg (by rintro rfl;exact O rfl)]
     show look ((d,AV.sl k (l++U))::(aO on σ).s) t=_
     rw[e];cases on with
     |none=>exact H
     | some n =>
      simp only[aO,aW];rw[mM (scr n) (by simp[scr,AV.has]),H];simp[scr,AV.has]
    ·exact F
  case bsliceC k m z ps=>cases d with
   |none=>exact F
   | some d =>
    simp only[bG] at F⊢;obtain⟨x,b,⟨I,rows,h2,J,L⟩,Y,_⟩:=wX (op:=.bslice k m z ps) F;exact Y _ ⟨I,rows,h2,J,L,qP (some d) _ _ _⟩
  all_goals simp[uX] at hr
theorem aBA {o:aJ}{σ:St}{K:St→Prop} (F:vc P K [o] σ):vc P (fun σ'=>K σ'∧aCQ o.dst σ σ') [o] σ:=by
 simp only[vc] at F⊢;split at F
 ·exact aBG F
 ·split at F
  ·rw[jR] at F⊢;exact⟨fun h=>aBG (F.1 h),fun h=>⟨F.2 h,qP _ _ _ _⟩⟩
  ·exact⟨F,qP _ _ _ _⟩
  ·exact F
theorem aBF {d:Option Nat}{σ:St}{K O:St→Prop} (H:∀σ,K σ→O σ) {op:AOp} (F:bG P d σ K op):bG P d σ O op:=by
 by_cases Y:uX op=true
 ·rw[zC Y] at F⊢;obtain⟨x,I,h2,_⟩:=zS F;exact h2 _ (H _ I)
 ·have G:∀{op:AOp}{d':Nat},al (evO (look σ.s)) (aB σ.h) (.t d' 0) (fun v b=>(bT (.t d' 0) σ=true∧b.has (.t d' 0)=false)∧K ⟨(d',v)::σ.s,(.t d' 0,b)::σ.h⟩) op→
    al (evO (look σ.s)) (aB σ.h) (.t d' 0) (fun v b=>(bT (.t d' 0) σ=true∧b.has (.t d' 0)=false)∧O ⟨(d',v)::σ.s,(.t d' 0,b)::σ.h⟩) op:=by
   intro op d' F;obtain⟨x,b,⟨I,J⟩,L,_⟩:=wX F;exact L _ ⟨I,H _ J⟩
  cases op
  case box x=>cases d with
   |none=>exact F
   |some d=>exact G (op:=.box x) (d':=d) F
  case alloc z=>cases d with
   |none=>exact F
   |some d=>exact G (op:=.alloc z) (d':=d) F
  case bslice k m z ps=>cases d with
   |none=>exact F
   |some d=>exact G (op:=.bslice k m z ps) (d':=d) F
  case mk k y z n=>cases d with
   |none=>exact F
   |some d=>exact G (op:=.mk k y z n) (d':=d) F
  case call f args bor =>
   simp only[bG,aCi] at F⊢;split at F
   ·split at F
    ·obtain⟨I,r,M,fz,h2,J,L,U⟩:=F;exact⟨I,r,M,fz,h2,J,L,H _ U⟩
    ·exact F
   ·exact F
  case store k A X =>
   simp only[bG] at F⊢;refine⟨F.1,?_⟩;have F:=F.2;split at F
   ·split at F
    ·exact⟨F.1,H _ F.2⟩
    ·exact F
   ·exact F
  case clr k z X =>
   simp only[bG] at F⊢;split at F
   ·split at F
    ·exact⟨F.1,H _ F.2⟩
    ·exact F
   ·exact F
  case append k y A X =>
   cases d with
   |none=>exact F
   | some d =>
    simp only[bG] at F⊢;split at F
    ·exact⟨F.1,H _ F.2⟩
    ·exact F
  case appendC k y A X =>
   cases d with
   |none=>exact F
   | some d =>
    simp only[bG] at F⊢;split at F
    ·exact⟨F.1,H _ F.2⟩
    ·exact F
  case bsliceC k m z ps=>cases d with
   |none=>exact F
   | some d =>
    simp only[bG] at F⊢;obtain⟨x,b,⟨I,rows,h2,J,L⟩,U,_⟩:=wX (op:=.bslice k m z ps) F;exact U _ ⟨I,rows,h2,J,H _ L⟩
  all_goals simp[uX] at Y
theorem y5 {o:aJ}{σ:St}{K H:St→Prop} (G:∀σ,K σ→H σ) (F:vc P K [o] σ):vc P H [o] σ:=by
 simp only[vc] at F⊢;split at F
 ·exact aBF G F
 ·split at F
  ·rw[jR] at F⊢;exact⟨fun h=>aBF G (F.1 h),fun h=>G _ (F.2 h)⟩
  ·exact G _ F
  ·exact F
theorem aDh {o:aJ}{r:List aJ}{σ:St}{K:St→Prop}:vc P K (o::r) σ↔vc P (vc P K r) [o] σ:=Iff.rfl
theorem aH0 {K:St→Prop}:∀(ops:List aJ) (σ:St),vc P K ops σ→vcE P (fun f=>∃σ':St,σ'.f=f∧K σ') ops σ.f
 | [],σ,hv=>⟨σ,rfl,hv⟩
 | o::r,σ,hv=>by
  have U:=aH0 (K:=K) r;simp only[vcE];split
  ·rename_i M;simp only[dZ,Bool.and_eq_true,Bool.or_eq_true] at M
   have run:bG P o.dst σ (vc P K r) o.op→∃δ,Eff P o.dst o.op σ.f δ∧vcE P (fun f=>∃σ':St,σ'.f=f∧K σ') r (app o.dst δ σ.f):=fun O=>by
    obtain⟨δ,F,σ',h2,L⟩:=aA7 M.1 M.2 O;exact⟨δ,F,by rw[←h2];exact U σ' L⟩
   have skip:vc P K r ⟨put o.dst (.v (.tuple #[])) σ.s,σ.h⟩→∃δ,Eff P o.dst aGr σ.f δ∧vcE P (fun f=>∃σ':St,σ'.f=f∧K σ') r (app o.dst δ σ.f):=fun O=>by
    obtain⟨δ,F,σ',h2,L⟩:=aA7 (P:=P) (d:=o.dst) (σ:=σ) (K:=vc P K r) (op:=aGr) rfl (.inl rfl) O;exact⟨δ,F,by rw[←h2];exact U σ' L⟩
   simp only[vc] at hv;split at hv
   ·rename_i I;obtain⟨δ,F,h2⟩:=run hv;exact⟨δ,⟨true,by simp only[runs,I],F⟩,h2⟩
   ·rename_i g H I;split at hv
    ·rename_i b J;by_cases G:b=H
     ·obtain⟨δ,F,h2⟩:=run ((jR.1 hv).1 G);exact⟨δ,⟨true,by simp only[runs,I];exact .inl ⟨b,J,by simp[G]⟩,F⟩,h2⟩
     ·have Y:b = !H:=aG2 G;obtain⟨δ,F,h2⟩:=skip ((jR.1 hv).2 Y);exact⟨δ,⟨false,by simp only[runs,I];exact .inl ⟨b,J,by simp[G]⟩,F⟩,h2⟩
    ·rename_i cs J;obtain⟨δ,F,h2⟩:=skip hv;exact⟨δ,⟨false,by unfold runs;rw[I];exact .inr ⟨⟨cs,J⟩,rfl⟩,F⟩,h2⟩
    ·exact hv.elim
  ·refine⟨σ,rfl,y5 (fun σ' h=>⟨U σ' h.1,h.2⟩) (aBA (aDh.1 hv))⟩
theorem aH1 {o:aJ}{σ:St}{δ:Dl} (I:Canon σ) (M:wZ P o σ.f δ):vc P (fun σ'=>σ'.f=app o.dst δ σ.f) [o] σ:=by
 obtain⟨b,G,h2⟩:=M
 have skip:b=false→(⟨put o.dst (.v (.tuple #[])) σ.s,σ.h⟩:St).f=app o.dst δ σ.f:=by
  rintro rfl;exact vR I h2
 simp only[vc];unfold runs at G;split
 ·rename_i J;rw[J] at G;simp only at G;subst G;exact vR I h2
 ·rename_i g H J;rw[J] at G;rcases G with⟨c,e,rfl⟩|⟨⟨cs,e⟩,L⟩
  ·simp only[show look σ.s g=_ from e];by_cases F:c=H
   ·subst F;refine jR.2 ⟨fun _=>?_,fun O=>by cases c<;>simp at O⟩;have:aBd (c==c) o=o.op:=by simp[aBd]
    unfold EffS at h2;rw[this] at h2;exact vR I h2
   ·exact jR.2 ⟨fun h=>absurd h F,fun _=>skip (by simp[F])⟩
  ·simp only[show look σ.s g=_ from e];exact skip L
theorem aGD {ops:Array Oper}{Q:Exit→Act→World→Prop}{K:St→Prop}{i:Nat}{o:Oper}{ao:aJ} (ho:ops[i]? = some o) (hc:mU P C.nt ops o=some ao.bare) {σ:St} (H:vc P K [ao] σ) (F:OK C σ.f a w S ρ κ) :
  wpOp P ops Q i (cK C K) a w:=by
 obtain⟨h1,h2,M,h4⟩:=iT hc;have go:bG P ao.dst σ K ao.op→o.wp P a w (cK C K) Q:=fun U=>uO (P:=P) h1 F M (by rw[h2];exact U);unfold wpOp;rw[ho];simp only[vc] at H;rcases h4 with⟨J,L⟩|⟨j,G,t,J,L,g3⟩
 ·rw[L] at H;have:Region.wanted o (yielded ops a.tmps)=true:=by simp[Region.wanted,J]
  simp only[this,if_true];exact .inl (go H)
 ·rw[L] at H;simp only at H;split at H
  ·rename_i b O;have Y:=xB F J g3 O;simp only[Y];by_cases I:b=G
   ·simp only[I,beq_self_eq_true,if_true];exact .inl (go ((jR.1 H).1 I))
   ·have:(b==G)=false:=by simpa using I
    simp only[this,Bool.false_eq_true,if_false];have hn:b = !G:=aG2 I;refine⟨_,S,ρ,κ,(jR.1 H).2 hn,?_⟩;have:=F.put (x:=.v undef) (v:=undef) (.clo (.v _)) M;rw[h2] at this⊢;simpa[St.f,jX,undef] using this
  ·rename_i cs O;have Y:=xA F J g3 O;simp only[Y,Bool.false_eq_true,if_false];refine⟨_,S,ρ,κ,H,?_⟩;have:=F.put (x:=.v undef) (v:=undef) (.clo (.v _)) M;rw[h2] at this⊢;simpa[St.f,jX,undef] using this
  ·exact H.elim
theorem aGe {ops:Array Oper}{K:Act→World→Prop}{i:Nat} (h:wpOp P ops (fun _ _ _=>False) i K a w):∃G w',K G w':=by
 unfold wpOp at h;split at h
 ·exact⟨_,_,h⟩
 ·split at h
  ·rcases h with h|⟨_,_,_,h⟩
   ·rename_i o _ _;unfold Oper.wp at h;generalize(execOp a.eval o).run P w=r at h;cases r with
    | ok n w' =>
     cases n<;>simp only[Oper.upon] at h
     case enter f args =>
      obtain⟨e,F,fr,h,_⟩:=h [];cases e with
      |returned v=>exact⟨_,_,h⟩
      |panicked ch=>exact h.elim
      |outgrown=>obtain⟨_,_,h⟩:=h;exact h.elim
     case row row args =>
      obtain⟨v,F,h,_⟩:=h (Frame.enter P 0 #[] .normal) [];exact⟨_,_,h⟩
     all_goals exact⟨_,_,h⟩
    |halt x w'=>cases x<;>simp only[Oper.upon] at h
   ·exact h.elim
  ·exact⟨_,_,h⟩
end
end Go.Vs
