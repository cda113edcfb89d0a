/- What an operation depends on: the values of its operands, and the blocks that they reach. -/
import Derived.Test.YtmiiohemehacjaaGreatDoorVsM
set_option linter.all false
set_option maxHeartbeats 8000000
namespace Go.Vs
section
variable [Envs]
variable {P:Program}{C:Ctx}{a:Act}{w:World}{S:Nat->Prop}{ρ:Name->Option Nat}{κ:Name->Nat}
theorem bH {σ:St}{K:St->Prop}{o:Oper}{Q:Exit->Act->World->Prop} (H:OK C σ.f a w S ρ κ) (J:∀d',o.dst=some d'->d'<C.nt) {s:Sem Value}
  (L:execOp a.eval o=(do pure (Next.value (←s)))) (h:Ans P S w ρ κ σ.f.h (λv=>K ⟨put o.dst v σ.s,σ.h⟩) s):o.wp P a w (bV C K) Q:=by
 obtain⟨x,v,I,F,O⟩:=h;exact vZ H J ⟨x,v,I,by rw[L];exact aHN F,O⟩
theorem yJ {σ:St}{K:St->Prop}{o:Oper}{d:Nat}{Q:Exit->Act->World->Prop} (H:o.dst=some d) (U:d<C.nt) {s:Sem Value}
  (Y:execOp a.eval o=(do pure (Next.value (←s))))
  (h:Made P C σ.f a w S (.t d 0) (λv b=>(bX (.t d 0) σ=true∧b.has (.t d 0)=false)∧K ⟨(d,v)::σ.s,(.t d 0,b)::σ.h⟩) s):o.wp P a w (bV C K) Q:=by
 obtain⟨x,b,v,w',⟨⟨L,h2⟩,O⟩,I,J⟩:=h;obtain⟨ρ',κ',F,Z⟩:=J (dW L) h2
 have e:(St.mk σ.s ((.t d 0,b)::σ.h)).f=⟨σ.f.s,hput σ.f.h (.t d 0) (some b)⟩:=by
  simp only[St.f,FSt.mk.injEq,true_and]
  funext m;simp only[aB,hput]
 unfold Oper.wp;rw[Y,aHN I];show bV C K (a.put o.dst v) w'
 rw[←e] at F;rw[H];exact bV.put (σ:=⟨σ.s,(.t d 0,b)::σ.h⟩) F (by rw[e];exact Z) (λd' h=>by rw[←Option.some.inj h];exact U) O
theorem bare_eq {op F:AOp} (h:op.bare0=F):(∃f args bor,op=.call f args bor∧F=.call f args [])∨((∀f args bor,op≠.call f args bor)∧op=F):=by
 cases op<;>simp only[AOp.bare0] at h<;>first
  |exact .inr ⟨by simp,h⟩
  |exact .inl ⟨_,_,_,rfl,h.symm⟩
theorem dI {op F:AOp} (h:some F=some op.bare0) (H:∀f args bor,F≠.call f args bor:=by intro _ _ _ h;cases h):op=F:=by
 rcases bare_eq (Option.some.inj h).symm with⟨f,args,bor,_,h⟩|⟨_,h⟩
 .exact absurd h (H _ _ _)
 .exact h
theorem aFI {T:TypeId}{g:Bool}{k:Nat} (h:uG P T=some (g,k)):iK P T=some g:=by
 unfold uG at h;split at h
 .rename_i n F h2;simp only[Option.some.injEq,Prod.mk.injEq] at h;rw[F,h.1]
 .rename_i n F h2;simp only[Option.some.injEq,Prod.mk.injEq] at h;rw[F,h.1]
 .cases h
theorem aHp {α:Type}{x:Array α}{p q:α} (h:x.toList=[p,q]):x=#[p,q]:=by
 apply Array.ext';simpa using h
theorem arr1 {α:Type}{x:Array α}{p:α} (h:x.toList=[p]):x=#[p]:=by
 apply Array.ext';simpa using h
theorem aFn {o:Oper}{c:Call}{b:Builtin} (H:o.op=.call c) (F:c.callee=.builtin b) :
  execOp a.eval o=builtin b c.argTypes o.type (c.args.map fun|.const _=>true|_=>false) (c.args.map a.eval):=by
 simp only[execOp,H,resolve,F];rfl
theorem oK {σ:St}{K:St->Prop}{o:Oper}{op:AOp}{Q:Exit->Act->World->Prop} (F:comp P o.op=some op.bare0) (H:OK C σ.f a w S ρ κ) (O:∀d',o.dst=some d'->d'<C.nt)
  (I:bC P o.dst σ K op):o.wp P a w (bV C K) Q:=by
 generalize J:o.op=oop at F;cases oop
 case move x =>
  obtain rfl:=dI F;exact vZ H O ⟨_,_,I,by simp[execOp,J],H.ev x⟩
 case assign x =>
  obtain rfl:=dI F;exact vZ H O ⟨_,_,I,by simp[execOp,J],H.ev x⟩
 case pick c x y =>
  obtain rfl:=dI F;have hy:=H.ev c;simp only[bC,rd] at I;split at I
  .rename_i t ht;rw[show evO σ.f.s c=_ from ht] at hy;have:=bL hy;cases t
   .exact vZ H O ⟨_,_,I.2 rfl,by simp[execOp,J,this,asBool],H.ev y⟩
   .exact vZ H O ⟨_,_,I.1 rfl,by simp[execOp,J,this,asBool],H.ev x⟩
  .exact I.elim
 case alloc t =>
  simp only[comp] at F;cases hz:zOf P t with
  |none=>rw[hz] at F;cases F
  | some z =>
   rw[hz] at F;obtain rfl:=dI F;simp only[bC] at I;split at I
   .rename_i d L;exact yJ L (O d L) (by simp only[execOp,J]) (aLf H hz I)
   .exact I.elim
 case box t x =>
  obtain rfl:=dI F;simp only[bC] at I;split at I
  .rename_i d L;exact yJ L (O d L) (by simp only[execOp,J]) (aNK (T:=t) H I)
  .exact I.elim
 case build t ps =>
  simp only[comp] at F;split at F
  .rename_i fs z U hz;split at F
   .rename_i hq;cases hp:bpS P fs ps.toList with
    |none=>rw[hp] at F;cases F
    | some rp =>
     rw[hp] at F;obtain rfl:=dI F;exact bH H O (by simp only[execOp,J]) (aA4 H U hz hq hp I)
   .cases F
  .rename_i m e z U hz;cases hn:jM P e with
   |none=>rw[hn] at F;cases F
   | some n =>
    rw[hn] at F;obtain rfl:=dI F;exact bH H O (by simp only[execOp,J]) (aBM H U hz hn I)
  .cases F
 case buildSlice t m ps =>
  simp only[comp] at F;split at F
  .rename_i e U;split at F
   .rename_i k z hk hz;obtain rfl:=dI F;simp only[bC] at I;split at I
    .rename_i d L;refine yJ (σ:=σ) (S:=S) (K:=K) L (O d L) (s:=Instr.buildSlice t m (ps.map λ(i,x)=>(i,a.eval x))) (by simp only[execOp,J]) ?_;have:=aJn H U hk hz I
     have e1:(ps.toList.map λp=>(p.1,a.eval p.2)).toArray=ps.map λ(i,x)=>(i,a.eval x):=by
      apply Array.ext';simp
     rw[e1] at this;exact this
    .exact I.elim
   .cases F
  .cases F
 case load t x =>
  simp only[comp] at F;cases hl:uG P t with
  |none=>rw[hl] at F;cases F
  | some p =>
   rw[hl] at F;obtain rfl:=dI F;exact bH H O (by simp only[execOp,J]) (aHS H hl I)
 case store t A X =>
  simp only[comp] at F;cases hl:jM P t with
  |none=>rw[hl] at F;cases F
  | some k =>
   rw[hl] at F;obtain rfl:=dI F;obtain⟨h8,I⟩:=I
   have:=aJp H (A:=A) (X:=X) hl (K:=λh'=>∃l,aB l=h'∧K ⟨σ.s,l⟩) (by
     simp only[wrS,St.f];split at I
     . rename_i n e c hA
       rw[hA];split at I
       . rename_i b cs hb h7
         simp only[hb,h7];exact⟨I.1,_,wL _ _ _,I.2⟩
       . exact I.elim
     . exact I.elim)
   obtain⟨h',w',⟨l,rfl,hK⟩,hh,he⟩:=this;unfold Oper.wp;have hr:(execOp a.eval o).run P w=.ok .skip w':=by simp[execOp,J,hh]
   rw[hr];simp only[Oper.upon,h8,Act.put];exact⟨⟨σ.s,l⟩,S,ρ,κ,hK,he⟩
 case nilCheck x =>
  obtain rfl:=dI F;exact vZ H O (aLE H J I)
 case binOp op t x y yt =>
  simp only[comp] at F;split at F
  .simp only[Option.some.injEq] at F;obtain rfl:=dI (congrArg some F);exact bH H O (by simp only[execOp,J]) (aM8 (t:=t) H I)
  .simp only[Option.some.injEq] at F;obtain rfl:=dI (congrArg some F);exact bH H O (by simp only[execOp,J]) (aLK (t:=t) H I)
  .rename_i U;obtain rfl:=dI F;exact bH H O (by simp only[execOp,J]) (aLL H U I)
  .rename_i U;split at F
   .rename_i ks h4;split at F
    .rename_i hm;split at F
     .simp only[Option.some.injEq] at F;obtain rfl:=dI (congrArg some F);exact bH H O (by simp only[execOp,J]) (aKa H (.inl ⟨rfl,rfl⟩) h4 hm.1 hm.2 I)
     .simp only[Option.some.injEq] at F;obtain rfl:=dI (congrArg some F);exact bH H O (by simp only[execOp,J]) (aKa H (.inr ⟨rfl,rfl⟩) h4 hm.1 hm.2 I)
     .cases F
    .cases F
   .cases F
  .cases F
 case unOp op t x =>
  obtain rfl:=dI F;exact bH H O (by simp only[execOp,J]) (rd_un H I)
 case convert s d x =>
  simp only[comp] at F;split at F
  .rename_i h1 h2;obtain rfl:=dI F;exact bH H O (by simp only[execOp,J]) (aLJ H h1 h2 I)
  .rename_i e h1 h2;split at F
   .rename_i h3;obtain rfl:=dI F;exact bH H O (by simp only[execOp,J]) (aM9 H h1 h3 h2 I)
   .cases F
  .cases F
 case makeFunc fn first caps =>
  cases fn
  case func g =>
   simp only[comp] at F;split at F
   .rename_i qd;obtain rfl:=dI F;have h9:first=#[]:=Array.eq_empty_of_size_eq_zero qd
    have:=aLF (P:=P) (w:=w) (K:=λv=>K ⟨put o.dst v σ.s,σ.h⟩) H I;refine bH H O (s:=Instr.makeFunc (.func g) #[] (caps.map a.eval)) (by simp only[execOp,J,h9,List.map_toArray,List.map_nil]) ?_;simpa using this
   .cases F
  all_goals simp[comp] at F
 case makeSlice t l c =>
  simp only[comp] at F;split at F
  .rename_i qb;obtain rfl:=aJ0 qb;split at F
   .rename_i e U;split at F
    .rename_i i hi;split at F
     .rename_i z hz;obtain rfl:=dI F;simp only[bC] at I;split at I
      .rename_i d L;exact yJ L (O d L) (by simp only[execOp,J]) (al_mk H U hi hz I)
      .exact I.elim
     .cases F
    .cases F
   .cases F
  .cases F
 case slice t x lo hi mx =>
  cases mx
  case none =>
   simp only[comp] at F;split at F
   .rename_i e U;cases hk:jM P e with
    |none=>rw[hk] at F;cases F
    | some k =>
     rw[hk] at F;obtain rfl:=dI F;exact bH H O (by simp only[execOp,J];rfl) (aM6 H U hk I)
   .rename_i U;obtain rfl:=dI F;exact bH H O (by simp only[execOp,J];rfl) (aLD H U I)
   .cases F
  case some=>simp[comp] at F
 case fieldAddr s x i =>
  simp only[comp] at F;split at F
  .rename_i f hf;split at F
   .rename_i n hn;obtain rfl:=dI F;exact bH H O (by simp only[execOp,J]) (aEC H hf hn (by omega) I)
   .cases F
  .cases F
 case field s x i =>
  simp only[comp] at F;split at F
  .rename_i f hf;cases hl:uG P f.type with
   |none=>rw[hl] at F;cases F
   | some p =>
    obtain⟨g,n⟩:=p;rw[hl] at F;simp only[Option.bind_some] at F;split at F
    .rename_i hs;obtain rfl:=dI F;have hg:=aFI hl;exact bH H O (by simp only[execOp,J]) (aJ9 H hf hs hg (λh=>aAF (h ▸ hl)) I)
    .cases F
  .cases F
 case indexAddr t x i =>
  simp only[comp] at F;split at F
  .rename_i e U;cases hk:jM P e with
   |none=>rw[hk] at F;cases F
   | some k =>
    rw[hk] at F;obtain rfl:=dI F;exact bH H O (by simp only[execOp,J]) (aJ8 H U hk I)
  .rename_i n e U;cases hk:jM P e with
   |none=>rw[hk] at F;cases F
   | some k =>
    rw[hk] at F;obtain rfl:=dI F;exact bH H O (by simp only[execOp,J]) (aIL H U hk I)
  .cases F
 case index t x i =>
  simp only[comp] at F;split at F
  .rename_i U;obtain rfl:=dI F;exact bH H O (by simp only[execOp,J]) (aIK H U I)
  .rename_i n e U;cases hl:uG P e with
   |none=>rw[hl] at F;cases F
   | some p =>
    obtain⟨g,k⟩:=p;rw[hl] at F;simp only[Option.bind_some] at F;split at F
    .rename_i hs;obtain rfl:=dI F;have hg:=aFI hl;exact bH H O (by simp only[execOp,J]) (aIM H U hs hg (λh=>aAF (h ▸ hl)) I)
    .cases F
  .cases F
 case extract x i =>
  obtain rfl:=dI F;exact bH H O (by simp only[execOp,J]) (aGP H I)
 case call c =>
  simp only[comp] at F;split at F
  .rename_i b Y;have hb:=aFn (a:=a) J Y;unfold tX at F;split at F
   .rename_i t x Z ha;have e1:=arr1 Z;have e2:=arr1 ha;split at F
    .rename_i e U;obtain rfl:=dI F;exact bH H O (s:=Builtin.len_ #[t] o.type #[a.eval x]) (by rw[hb,e1,e2];simp only[builtin,List.map_toArray,List.map_cons,List.map_nil]) (aM7 H U I)
    .rename_i U;obtain rfl:=dI F;exact bH H O (s:=Builtin.len_ #[t] o.type #[a.eval x]) (by rw[hb,e1,e2];simp only[builtin,List.map_toArray,List.map_cons,List.map_nil]) (aLG H U I)
    .rename_i n e U;obtain rfl:=dI F;exact bH H O (s:=Builtin.len_ #[t] o.type #[a.eval x]) (by rw[hb,e1,e2];simp only[builtin,List.map_toArray,List.map_cons,List.map_nil]) (aLH _ U I)
    .cases F
   .rename_i t t2 A X Z ha;have e1:=aHp Z;have e2:=aHp ha;split at F
    .rename_i e qh U qe;split at F
     .rename_i i hi;split at F
      .rename_i z hz;split at F
       .rename_i qg;obtain rfl:=dI F;simp only[bC] at I;split at I
        .rename_i d L;split at I
         .rename_i on l l' hw qc;obtain⟨⟨hf,h1,h2⟩,hK⟩:=I
          have ho:=aIy (P:=P) (ty:=o.type) H (K:=fun σ' x=>∃σl:St,σl.f=σ'∧K ⟨(d,x)::σl.s,σl.h⟩) U qe hi hz qg (A:=A) (X:=X) (d:=.t d 0) (λqi l2 hj=>by
            simp only[St.f] at hj;rw[hw] at hj;simp only[Option.some.injEq,Prod.mk.injEq] at hj;obtain⟨rfl,rfl⟩:=hj;have:=dW hf;rw[aFQ] at this;exact this) (by
            simp only[wrA,St.f,hw,qc];refine⟨⟨h1,h2⟩,⟨(aP on σ).s,(.t d 0,.arr i.size (l++l') false)::(aP on σ).h⟩,?_,hK⟩;have h0:=aFQ on σ;have k1:look (aP on σ).s=(aBC on ⟨look σ.s,aB σ.h⟩).s:=congrArg FSt.s h0;have k2:aB (aP on σ).h=(aBC on ⟨look σ.s,aB σ.h⟩).h:=congrArg FSt.h h0;simp only[FSt.mk.injEq];refine⟨k1,?_⟩
            funext m
            simp only[aB,hput,←k2])
          obtain⟨σ',x,v,w',ρ',κ',⟨σl,rfl,h5⟩,hh,he,hx⟩:=ho;unfold Oper.wp
          have hr:(execOp a.eval o).run P w=.ok (.value v) w':=by
           rw[hb,e1,e2];simp only[builtin,List.map_toArray,List.map_cons,List.map_nil];exact aHN hh
          rw[hr];simp only[Oper.upon,L];exact bV.put he hx (d:=some d) (λd' h=>by rw[←Option.some.inj h];exact O d L) h5
         .exact I.elim
        .exact I.elim
       .cases F
      .cases F
     .cases F
    .cases F
   .rename_i t t2 x y Z ha;have e1:=aHp Z;have e2:=aHp ha;obtain rfl:=dI F;exact bH H O (s:=Builtin.max_ #[t,t2] o.type #[a.eval x,a.eval y]) (by rw[hb,e1,e2];simp only[builtin,List.map_toArray,List.map_cons,List.map_nil]) (aMH (mx:=true) (t:=#[t,t2]) (T:=o.type) H I)
   .rename_i t t2 x y Z ha;have e1:=aHp Z;have e2:=aHp ha;obtain rfl:=dI F;exact bH H O (s:=Builtin.min_ #[t,t2] o.type #[a.eval x,a.eval y]) (by rw[hb,e1,e2];simp only[builtin,List.map_toArray,List.map_cons,List.map_nil]) (aMH (mx:=false) (t:=#[t,t2]) (T:=o.type) H I)
   .rename_i t x Z ha;have e1:=arr1 Z;have e2:=arr1 ha;split at F
    .rename_i e U;split at F
     .rename_i i hi;split at F
      .rename_i z hz;obtain rfl:=dI F
       have ho:=aMV (P:=P) (ty:=o.type) H U hi hz (X:=x) (K:=λh'=>∃l,aB l=h'∧K ⟨Vs.put o.dst (.v (.tuple #[])) σ.s,l⟩) (by
         simp only[wrC,St.f];simp only[bC] at I;split at I
         . rename_i n off len hA
           rw[hA];split at I
           . rename_i k' l fz h6
             simp only[h6];exact⟨I.1,_,wL _ _ _,I.2⟩
           . exact I.elim
         . exact I.elim)
       obtain⟨h',w',⟨l,rfl,hK⟩,hh,he⟩:=ho;unfold Oper.wp
       have hr:(execOp a.eval o).run P w=.ok (.value (.tuple #[])) w':=by
        rw[hb,e1,e2];simp only[builtin,List.map_toArray,List.map_cons,List.map_nil];exact aHN hh
       rw[hr];exact bV.put (σ:=⟨σ.s,l⟩) he (.clo (.v _)) O hK
      .cases F
     .cases F
    .cases F
   .cases F
  .rename_i f Y;split at F
   .rename_i qa;split at F
    .rename_i x y qf;simp only[Option.some.injEq] at F;rcases bare_eq F.symm with⟨f',args,bor,rfl,h⟩|⟨_,rfl⟩
     .cases h
     .exact vZ H O (aLI H J Y (aHp qf) qa I)
    .cases F
   .simp only[Option.some.injEq] at F;rcases bare_eq F.symm with⟨f',args,bor,rfl,h⟩|⟨hn,h⟩
    .simp only[AOp.call.injEq] at h;obtain⟨rfl,rfl,_⟩:=h;exact aDJ H O J Y I
    .exact absurd h (hn _ _ _)
  .rename_i f _ Y;simp only[Option.some.injEq] at F;rcases bare_eq F.symm with⟨f',args,bor,rfl,h⟩|⟨hn,h⟩
   .simp only[AOp.call.injEq] at h;obtain⟨rfl,rfl,_⟩:=h;exact aDJ H O J Y I
   .exact absurd h (hn _ _ _)
  .cases F
 all_goals simp[comp] at F
theorem OK.close {σ:FSt} (F:OK C σ a w S ρ κ) {n:Name}{k d:Nat}{rows:List (List AV)}{z:Bool} (U:σ.h n=some (.arr k rows z)) (hd:σ.s d=.loc n 0 rows.length) :
  OK C ⟨upd σ.s (some d) (.sl k rows),λm=>if m=n then none else σ.h m⟩ a w (λb=>S b∨ρ n=some b) ρ κ:=by
 have O:∀b,S b->S b∨ρ n=some b:=λb h=>.inl h
 have hn:∀m,dY ρ ρ κ κ σ.h (λm=>if m=n then none else σ.h m) m:=by
  intro m J H;simp only at H;split at H
  .cases H
  .exact⟨rfl,rfl,J,H,J.same_refl⟩
 have I:∀m,((λm=>if m=n then none else σ.h m) m).isSome->m≠n∧(σ.h m).isSome:=by
  intro m L;simp only at L;split at L
  .cases L
  .exact⟨by assumption,L⟩
 have hv:=F.slots d;rw[hd] at hv
 have hc:=(oF F.hok O (E:=[]) (ρ':=ρ) (κ':=κ) (h':=σ.h) (by simp) 8 true (.loc n 0 rows.length) (.sl k ((rows.drop 0).take rows.length)) [n] _ (by simp[conv,kL,U])
   (λm L y hy=>by rw[List.mem_singleton.1 L] at hy;exact .inr hy) hv).2.1 rfl
 rw[List.drop_zero,List.take_length] at hc
 refine ⟨F.nt,F.defers,λt=>?_,⟨λm J H=>?_,λm Y y Z h2 h3 h4=>F.hok.inj m Y y (I m Z).2 (I Y h2).2 h3 h4,λb H=>?_,F.hok.env.mono O λ_ _=>rfl⟩,F.size,F.old,
   λm y Z h2=>F.mine m y (I m Z).2 h2,λb h=>.inl (F.S0 b h),λb h=>?_,F.out,λj J H=>?_⟩
 .simp only[upd];split
  .subst_vars;exact .clo hc
  .exact(F.slots t).mono O (λ_ _=>rfl) λm _=>hn m
 .simp only at H;split at H
  .cases H
  .rename_i ha;refine(F.hok.blk m J H).mono O (λx hx h=>?_) (λ_ _=>rfl) (λ_ _=>rfl) rfl rfl λY _=>hn Y;rcases h with h|h
   .exact h
   .exact absurd (F.hok.inj m n x (by simp[H]) (by simp[U]) hx h) ha
 .rcases H with h|h
  .exact F.hok.dom b h
  .exact F.hok.lt (n:=n) (by simp[U]) h
 .rcases h with h|h
  .exact F.Snew b h
  .exact .inr (F.mine n b (by simp[U]) h)
 .simp only at H;split at H
  .cases H
  .exact F.keep j J H
theorem aC8 {σ:St}{K:St->Prop}{n:Name}{k d:Nat}{rows:List (List AV)}{z:Bool}{s:List (Nat×AV)}{h:List (Name×Blk)} (L:σ=⟨(d,.loc n 0 rows.length)::s,(n,.arr k rows z)::h⟩) (J:aB h n=none)
  (I:K ⟨(d,.sl k rows)::s,h⟩) (F:OK C σ.f a w S ρ κ):bV C K a w:=by
 subst L;have:=F.close (n:=n) (k:=k) (d:=d) (rows:=rows) (z:=z) (by simp[St.f,aB]) (by simp[St.f,look]);refine⟨⟨(d,.sl k rows)::s,h⟩,λb=>S b∨ρ n=some b,ρ,κ,I,?_⟩
 have H:(⟨upd (St.f ⟨(d,.loc n 0 rows.length)::s,(n,.arr k rows z)::h⟩).s (some d) (.sl k rows),λm=>if m=n then none else(St.f ⟨(d,.loc n 0 rows.length)::s,(n,.arr k rows z)::h⟩).h m⟩:FSt)=(⟨(d,.sl k rows)::s,h⟩:St).f:=by
  simp only[St.f,FSt.mk.injEq];refine⟨funext λt=>?_,funext λm=>?_⟩
  .simp only[upd,look];split<;>rfl
  .simp only[aB];split
   .subst_vars;exact J.symm
   .rfl
 rw[H] at this;exact this
theorem xY {n:Name}{σ:St} (h:bX n σ=true):aB σ.h n=none:=(dW h).1.1
theorem vY {σ:St}{K:St->Prop}{o:Oper}{op:AOp}{Q:Exit->Act->World->Prop} (L:comp P o.op=some op.bare) (I:OK C σ.f a w S ρ κ) (Z:∀d',o.dst=some d'->d'<C.nt)
  (H:bC P o.dst σ K op):o.wp P a w (bV C K) Q:=by
 by_cases U:∃k y A X,op=.appendC k y A X
 .obtain⟨k,y,A,X,rfl⟩:=U;cases hds:o.dst with
  |none=>rw[hds] at H;exact H.elim
  | some d =>
   simp only[bC,hds] at H;split at H
   .rename_i on l l' hA hX;obtain⟨⟨hf,ha⟩,Y⟩:=H
    refine Oper.wp_mono (λa' w' ⟨σ',S',ρ',κ',hσ,hok'⟩=>?_) (oK (P:=P) (op:=.append k y A X) (K:=fun σ'=>σ'=⟨(d,.loc (.t d 0) 0 (l.length+l'.length))::(aP on σ).s,(.t d 0,.arr k (l++l') false)::(aP on σ).h⟩) L I Z (by
      simp only[bC,hds,hA,hX];exact⟨⟨hf,ha⟩,trivial⟩))
    exact aC8 (by rw[hσ,List.length_append]) (xY hf) Y hok'
   .exact H.elim
 .by_cases h2:∃k m z O,op=.bsliceC k m z O
  .obtain⟨k,m,z,O,rfl⟩:=h2;cases hds:o.dst with
   |none=>rw[hds] at H;exact H.elim
   | some d =>
    simp only[bC,hds] at H
    refine Oper.wp_mono (λa' w' ⟨σ',S',ρ',κ',⟨rows,hσ,hf,Y⟩,hok'⟩=>?_) (oK (P:=P) (op:=.bslice k m z O) (K:=fun σ'=>∃rows,σ'=⟨(d,.loc (.t d 0) 0 rows.length)::σ.s,(.t d 0,.arr k rows false)::σ.h⟩∧bX (.t d 0) σ=true∧K ⟨(d,.sl k rows)::σ.s,σ.h⟩) L I Z (by
      simp only[bC,hds]
      have:∀{K1 K2:AV->Blk->Prop}{op:AOp},(∀v b,K1 v b->K2 v b)->al (evO (look σ.s)) (aB σ.h) (.t d 0) K1 op->al (evO (look σ.s)) (aB σ.h) (.t d 0) K2 op:=by
        intro K1 K2 op J F
        have lay:∀(O:List (Nat×Nat×Operand)) (cs:List AV) {L1 L2:List AV->Prop},(∀c,L1 c->L2 c)->layAll (evO (look σ.s)) (aB σ.h) cs O L1->layAll (evO (look σ.s)) (aB σ.h) cs O L2:=by
          intro O
          induction O with
          |nil=>intro cs L1 L2 hh F;exact hh _ F
          | cons p r ih =>
            intro cs L1 L2 hh F;obtain⟨o,n,x⟩:=p;simp only[layAll] at F⊢;split at F
            . exact⟨F.1,ih _ hh F.2⟩
            . exact F
        cases op<;>simp only[al] at F⊢<;> try exact F
        . split at F
          . exact J _ _ F
          . exact F
        . exact⟨F.1,J _ _ F.2⟩
        . exact⟨F.1,lay _ _ (λc L=>⟨L.1,J _ _ L.2⟩) F.2⟩
        . split at F
          . exact⟨F.1,J _ _ F.2⟩
          . exact F
      refine this (λv b hb=>?_) H;obtain⟨U,rows,rfl,rfl,Y⟩:=hb;exact⟨U,rows,rfl,U.1,Y⟩))
    exact aC8 hσ (xY hf) Y hok'
  .by_cases h3:∃g k A,op=.loadV g k A
   .obtain⟨g,k,A,rfl⟩:=h3;exact oK (op:=.load g k A) L I Z (by simp only[bC] at H⊢;exact aJ7 H)
   .by_cases h4:∃f A,op=.fieldV f A
    .obtain⟨f,A,rfl⟩:=h4;exact oK (op:=.fieldAddr f A) L I Z (by simp only[bC] at H⊢;exact aIN H)
    .have e:op.bare=op.bare0:=by
      cases op<;>first
       |rfl
       |exact absurd ⟨_,_,_,_,rfl⟩ U
       |exact absurd ⟨_,_,_,_,rfl⟩ h2
       |exact absurd ⟨_,_,_,rfl⟩ h3
       |exact absurd ⟨_,_,rfl⟩ h4
     exact oK (by rw[L,e]) I Z H
def aEW (t:Nat) (σ:St) (N:St->Prop):Prop:=match look σ.s t with
 | .loc n lo m=>match aB σ.h n with
  |some (.arr k rows _)=>(lo=0∧m=rows.length)∧N ⟨(t,.sl k rows)::(eU n σ).s,(eU n σ).h⟩
  |_=>False
 |_=>N σ
theorem aGi {σ:St}{N:St->Prop}{t:Nat} (F:aEW t σ N) (H:OK C σ.f a w S ρ κ):bV C N a w:=by
 unfold aEW at F;split at F
 .rename_i n lo m Y;split at F
  .rename_i k rows z U;obtain⟨⟨rfl,rfl⟩,O⟩:=F;have J:=(H.close (n:=n) (k:=k) (d:=t) (rows:=rows) (z:=z) U Y).kill n;refine⟨_,λb=>S b∨ρ n=some b,ρ,κ,O,?_⟩
   have L:pE n ⟨upd σ.f.s (some t) (.sl k rows),λm=>if m=n then none else σ.f.h m⟩=(⟨(t,.sl k rows)::(eU n σ).s,(eU n σ).h⟩:St).f:=by
    simp only[pE,St.f,FSt.mk.injEq];refine⟨funext λu=>?_,funext λm=>?_⟩
    .simp only[upd,look];by_cases I:u=t
     .subst I;simp[scr,AV.has]
     .rw[if_neg I,if_neg I];exact(mQ (scr n) (by simp[scr,AV.has]) _ u).symm
    .simp only[eU,sU];split<;>simp
   rw[L] at J;exact J
  .exact F.elim
 .exact⟨σ,S,ρ,κ,F,H⟩
/-! ## another name for a block -/
def nmF (n m:Name) (x:Name):Option Name:=if x=n then some m else if x=m then none else some x
theorem OK.rename {σ:FSt} (F:OK C σ a w S ρ κ) {n m:Name} (hf:n≠m) (hm:σ.h m=none) (hc:∀j,m≠.b j) :
  ∃ρ' κ',OK C ⟨λt=>rn (nmF n m) (σ.s t),λx=>if x=m then(σ.h n).map (rnB (nmF n m)) else if x=n then none else(σ.h x).map (rnB (nmF n m))⟩ a w S ρ' κ':=by
 let ρ':Name->Option Nat:=λx=>if x=m then ρ n else ρ x
 let κ':Name->Nat:=λx=>if x=m then κ n else κ x
 let h':Name->Option Blk:=λx=>if x=m then(σ.h n).map (rnB (nmF n m)) else if x=n then none else(σ.h x).map (rnB (nmF n m))
 have back:∀x O,h' x=some O->∃y b,σ.h y=some b∧O=rnB (nmF n m) b∧ρ' x=ρ y∧κ' x=κ y∧((x=m∧y=n)∨(x=y∧x≠m∧x≠n)):=by
  intro x O I;simp only[h'] at I;split at I
  .rename_i H;obtain⟨b,U,h2⟩:=Option.map_eq_some_iff.1 I;exact⟨n,b,U,h2.symm,by simp[ρ',H],by simp[κ',H],.inl ⟨H,rfl⟩⟩
  .rename_i H;split at I
   .cases I
   .rename_i Y;obtain⟨b,U,h2⟩:=Option.map_eq_some_iff.1 I;exact⟨x,b,U,h2.symm,by simp[ρ',H],by simp[κ',H],.inr ⟨rfl,H,Y⟩⟩
 have hφ:∀x y,nmF n m x=some y->ρ' y=ρ x∧κ' y=κ x∧∀O,h' y=some O->∃b,σ.h x=some b∧b.same O:=by
  intro x y L
  have hy:ρ' y=ρ x∧κ' y=κ x∧(h' y=(σ.h x).map (rnB (nmF n m))):=by
   simp only[nmF] at L;split at L
   .rename_i H;obtain rfl:=Option.some.inj L;exact⟨by simp[ρ',H],by simp[κ',H],by simp[h',H]⟩
   .rename_i H;split at L
    .cases L
    .rename_i Y;obtain rfl:=Option.some.inj L;exact⟨by simp[ρ',Y],by simp[κ',Y],by simp[h',H,Y]⟩
  refine⟨hy.1,hy.2.1,λO I=>?_⟩;rw[hy.2.2] at I;obtain⟨b,U,rfl⟩:=Option.map_eq_some_iff.1 I;exact⟨b,U,aAw _ _⟩
 have J:∀x,(h' x).isSome->∃y,(σ.h y).isSome∧ρ' x=ρ y∧((x=m∧y=n)∨(x=y∧x≠m∧x≠n)):=by
  intro x H;obtain⟨O,I⟩:=Option.isSome_iff_exists.1 H;obtain⟨y,b,U,_,h2,_,h3⟩:=back x O I;exact⟨y,by simp[U],h2,h3⟩
 refine⟨ρ',κ',F.nt,F.defers,λt=>(F.slots t).ren hφ,⟨λx O I=>?_,λx y z H hy hd he=>?_,F.hok.dom,F.hok.env⟩,F.size,F.old,λx z H hz=>?_,F.S0,F.Snew,F.out,λj b I=>?_⟩
 .obtain⟨y,b,U,rfl,h2,h3,_⟩:=back x O I;have ha:=F.hok.blk y b U;cases b with
  | var c z =>
   obtain⟨u,cs,T,fr,g1,g2,g3,g4,Z,g5,g6,g7⟩:=ha;refine⟨u,cs,T,fr,by rw[h2];exact g1,g2,g3,g4,Z,by rw[h3];exact g5,by rw[cK];exact g6,λj hj=>?_⟩;rw[cK] at hj;rw[mM _ _ _ hj];exact⟨(g7 j hj).1,(g7 j hj).2.ren hφ⟩
  | arr k l z =>
   obtain⟨g0,g⟩:=ha;refine⟨g0,?_⟩;rcases g with⟨g1,g2⟩|⟨u,cs,T,fr,g1,g2,g3,g4,Z,g5,g6,g7⟩
   .exact .inl ⟨by rw[h2];exact g1,g2⟩
   .exact .inr ⟨u,cs,T,fr,by rw[h2];exact g1,g2,g3,g4,Z,by rw[h3];exact g5,g6,g7⟩
 .obtain⟨x2,q1,q2,q3⟩:=J x H;obtain⟨y2,r1,r2,r3⟩:=J y hy;have e:=F.hok.inj x2 y2 z q1 r1 (by rw[←q2];exact hd) (by rw[←r2];exact he);rcases q3 with⟨rfl,rfl⟩|⟨rfl,q4,q5⟩<;>rcases r3 with⟨rfl,rfl⟩|⟨rfl,r4,r5⟩
  .rfl
  .exact absurd e.symm r5
  .exact absurd e q5
  .exact e
 .obtain⟨y,q1,q2,_⟩:=J x H;exact F.mine y z q1 (by rw[←q2];exact hz)
 .obtain⟨y,b0,U,rfl,h2,h3,h4⟩:=back _ b I;rcases h4 with⟨h4,_⟩|⟨rfl,_,_⟩
  .exact absurd h4.symm (hc j)
  .obtain⟨k1,k2,b1,k3,k4⟩:=F.keep j b0 U;refine⟨by rw[h2];exact k1,by rw[h3];exact k2,b1,k3,?_⟩;have:=aAw (nmF n m) b0;revert k4 this;cases b1<;>cases b0<;>simp[Blk.same,rnB]<;>omega
def wD (n m:Name) (σ:St):St:=⟨σ.s.map λp=>(p.1,rn (nmF n m) p.2),σ.h.map λp=>(if p.1=n then m else p.1,rnB (nmF n m) p.2)⟩
theorem aBh {n m:Name}:∀(l:List (Name×Blk)) (x:Name),aB l m=none->aB (l.map λp=>(if p.1=n then m else p.1,rnB (nmF n m) p.2)) x =
  if x=m then(aB l n).map (rnB (nmF n m)) else if x=n then none else(aB l x).map (rnB (nmF n m))
 | [],x,_=>by simp[aB]
 | (i,b)::r,x,h=>by
  simp only[aB] at h;have hi:¬m=i:=λe=>by rw[if_pos e] at h;cases h
  rw[if_neg hi] at h;have I:=aBh (n:=n) r x h;simp only[List.map_cons,aB];by_cases hin:i=n
  .subst hin;by_cases H:x=m
   .subst H;simp
   .by_cases F:x=i
    .subst F;rw[if_pos rfl,if_neg H,I,if_neg H];simp[H]
    .rw[if_pos rfl,if_neg H,I,if_neg H,if_neg F,if_neg H,if_neg F,if_neg F]
  .rw[if_neg hin];by_cases H:x=m
   .subst H;rw[if_neg hi,I,if_pos rfl,if_pos rfl,if_neg (λe=>hin e.symm)]
   .by_cases F:x=i
    .subst F;rw[if_pos rfl,if_neg H,if_neg hin,if_pos rfl];rfl
    .rw[if_neg F,I,if_neg H,if_neg H,if_neg F]
def aHW (t:Nat) (σ:St) (N:St->Prop):Prop:=match look σ.s t with
 | .loc n _ _=>if n=.t t 0 then N σ else match aB σ.h (.t t 0) with
  |none=>bX (.t t 0) σ=true∧N (wD n (.t t 0) σ)
  |some _=>bX (.t t 0) (eU (.t t 0) σ)=true∧N (wD n (.t t 0) (eU (.t t 0) σ))
 |_=>N σ
theorem aDO {σ:St}{N:St->Prop}{t:Nat}{n:Name} (O:n≠.t t 0) (L:bX (.t t 0) σ=true) (J:N (wD n (.t t 0) σ)) (H:OK C σ.f a w S ρ κ):bV C N a w:=by
 have F:=dW L;obtain⟨ρ',κ',I⟩:=H.rename (n:=n) (m:=.t t 0) O F.1.1 (λj=>by simp);refine⟨_,S,ρ',κ',J,?_⟩
 have e:(⟨λu=>rn (nmF n (.t t 0)) (σ.f.s u),λx=>if x=.t t 0 then(σ.f.h n).map (rnB (nmF n (.t t 0))) else if x=n then none else(σ.f.h x).map (rnB (nmF n (.t t 0)))⟩:FSt)=(wD n (.t t 0) σ).f:=by
  simp only[St.f,wD,FSt.mk.injEq];refine⟨funext λu=>(mQ _ (by simp[rn]) _ u).symm,funext λx=>(aBh _ x F.1.1).symm⟩
 rw[e] at I;exact I
theorem aGS {σ:St}{N:St->Prop}{t:Nat} (F:aHW t σ N) (H:OK C σ.f a w S ρ κ):bV C N a w:=by
 unfold aHW at F;split at F
 .rename_i n lo m L;split at F
  .exact⟨σ,S,ρ,κ,F,H⟩
  .rename_i J;split at F
   .exact aDO J F.1 F.2 H
   .have I:=H.kill (.t t 0);rw[←tT] at I;exact aDO J F.1 F.2 I
 .exact⟨σ,S,ρ,κ,F,H⟩
end
section
variable [Envs]
variable {P:Program}{C:Ctx}{a:Act}{w:World}{S:Nat->Prop}{ρ:Name->Option Nat}{κ:Name->Nat}
def vc (P:Program) (K:St->Prop):List aJ->St->Prop
 | [],σ=>K σ
 | o::r,σ=>match o.guard with
  |none=>bC P o.dst σ (vc P K r) o.op
  | some (g,want)=>match look σ.s g with
   |.v (.bool b)=>BrW b want (bC P o.dst σ (vc P K r) o.op) (vc P K r ⟨put o.dst (.v (.tuple #[])) σ.s,σ.h⟩)
   |.v (.tuple _)=>vc P K r ⟨put o.dst (.v (.tuple #[])) σ.s,σ.h⟩
   |_=>False
def aJ.bare (o:aJ):aJ:={o with op:=o.op.bare}
def nD (P:Program) (nt:Nat) (ops:Array Oper) (o:Oper):Option aJ:=
 match comp P o.op with
 |none=>none
 | some op=>if o.dst.all (λd=>decide (d<nt)) then
   match o.guard with
   |none=>some ⟨o.dst,op,none⟩
   | some (j,want)=>match(ops[j]?).bind (·.dst) with
    |some t=>some ⟨o.dst,op,some (t,want)⟩
    |none=>none
  else none
theorem iO {nt:Nat}{ops:Array Oper}{o:Oper}{ao:aJ} (h:nD P nt ops o=some ao.bare):comp P o.op=some ao.op.bare∧o.dst=ao.dst∧(∀d,o.dst=some d->d<nt)∧
  ((o.guard=none∧ao.guard=none)∨∃j F t,o.guard=some (j,F)∧ao.guard=some (t,F)∧(ops[j]?).bind (·.dst)=some t):=by
 grind [nD,aJ.bare]
theorem yG {σ:St}{ops:Array Oper}{o:Oper}{j t:Nat}{F b:Bool} (H:OK C σ.f a w S ρ κ) (L:o.guard=some (j,F)) (U:(ops[j]?).bind (·.dst)=some t) (O:look σ.s t=.v (.bool b)) :
  Region.wanted o (yielded ops a.tmps)=(b==F):=by
 have I:=H.slots t;simp only[St.f] at I;rw[O] at I;have J:=bL I
 have:a.tmps[t]? = some (.bool b):=by
  cases hx:a.tmps[t]? with
  | none =>
   grind [undef]
  | some u =>
   have:a.tmps.getD t undef=u:=by simp[hx]
   rw[this] at J;rw[J]
 simp[Region.wanted,L,yielded,U,this]
theorem yF {σ:St}{ops:Array Oper}{o:Oper}{j t:Nat}{F:Bool}{cs:Array Value} (H:OK C σ.f a w S ρ κ) (J:o.guard=some (j,F)) (O:(ops[j]?).bind (·.dst)=some t) (L:look σ.s t=.v (.tuple cs)) :
  Region.wanted o (yielded ops a.tmps)=false:=by
 have I:=H.slots t;simp only[St.f] at I;rw[L] at I;have U:=bL I;cases hx:a.tmps[t]? with
 |none=>simp[Region.wanted,J,yielded,O,hx]
 | some u =>
  have:a.tmps.getD t undef=u:=by simp[hx]
  all_goals grind [Region.wanted,yielded]
theorem aDL {ops:Array Oper}{Q:Exit->Act->World->Prop}{K:St->Prop} (hQ:∀a w,bV C K a w->Q .normal a w):∀(H:List aJ) (k:Nat),(∀j ao,H[j]? = some ao->∃o,ops[k+j]? = some o∧nD P C.nt ops o=some ao.bare)->
  ∀(σ:St) (a:Act) (w:World) (S:Nat->Prop) (ρ:Name->Option Nat) (κ:Name->Nat),vc P K H σ->OK C σ.f a w S ρ κ->wpOps P ops Q (List.range' k H.length) a w
 | [],k,_,σ,a,w,S,ρ,κ,hv,hok=>hQ a w ⟨σ,S,ρ,κ,hv,hok⟩
 | ao::r,k,hs,σ,a,w,S,ρ,κ,hv,hok=>by
  obtain⟨o,ho,hc⟩:=hs 0 ao (by simp);simp only[Nat.add_zero] at ho;obtain⟨h1,h2,U,h4⟩:=iO hc;rw[List.length_cons,List.range'_succ,wpOps_cons]
  have ih:=aDL hQ r (k+1) (λj O hj=>by
    obtain⟨o',J,L⟩:=hs (j+1) O (by simpa using hj);exact⟨o',by rw[show k+1+j=k+(j+1) by omega];exact J,L⟩)
  have go:bC P ao.dst σ (vc P K r) ao.op->o.wp P a w (wpOps P ops Q (List.range' (k+1) r.length)) Q:=λZ =>
   Oper.wp_mono (λa' w' ⟨σ',S',ρ',κ',hK,hok'⟩=>ih σ' a' w' S' ρ' κ' hK hok') (vY (P:=P) h1 hok U (by rw[h2];exact Z))
  unfold wpOp;rw[ho];simp only[vc] at hv;rcases h4 with⟨J,L⟩|⟨j,F,t,J,L,g3⟩
  .grind [Region.wanted]
  .rw[L] at hv;simp only at hv;split at hv
   .rename_i b Y;have hw:=yG hok J g3 Y;simp only[hw];by_cases I:b=F
    .simp only[I,beq_self_eq_true,if_true];exact .inl (go ((kQ.1 hv).1 I))
    .have:(b==F)=false:=by simpa using I
     simp only[this,Bool.false_eq_true,if_false];have hn:b = !F:=by cases b<;>cases F<;>simp_all
     refine ih _ _ _ S ρ κ ((kQ.1 hv).2 hn) ?_;have:=hok.put (x:=.v undef) (v:=undef) (.clo (.v _)) U
     all_goals grind [St.f,jU,undef]
   .rename_i cs Y;have hw:=yF hok J g3 Y;simp only[hw,Bool.false_eq_true,if_false];refine ih _ _ _ S ρ κ hv ?_;have:=hok.put (x:=.v undef) (v:=undef) (.clo (.v _)) U
    all_goals grind [St.f,jU,undef]
   .exact hv.elim
/-! ## code -/
inductive uC where
 |ret
 |exit (i:Nat)
inductive aF where
 |skip
 |region (ops:List aJ) (out:List Nat) (fl:List Nat)
 |seq (x y:aF)
 |cond (c:Operand) (x y:aF)
 |block (id:Nat) (c:aF)
 |loop (c:aF)
 |exit (id:Nat)
 |ret
 |closing (t:Nat) (c:aF)
 |naming (t:Nat) (c:aF)
def aAG (s:List (Nat×AV)):List Nat->List (Nat×AV)
 | []=>[]
 |t::r=>(t,look s t)::aAG s r
theorem aDS (s:List (Nat×AV)):∀(l:List Nat) (t:Nat),look (aAG s l) t=look s t∨look (aAG s l) t=.junk
 | [],t=>.inr rfl
 | i::r,t=>by
  simp only[aAG,look];split
  .subst_vars;exact .inl rfl
  .exact aDS s r t
theorem OK.less {σ σ':FSt} (F:OK C σ a w S ρ κ) (hs:∀t,σ'.s t=σ.s t∨σ'.s t=.junk) (J:∀n b,σ'.h n=some b->σ.h n=some b):OK C σ' a w S ρ κ:=by
 have O:∀m,dY ρ ρ κ κ σ.h σ'.h m:=λm b I=>⟨rfl,rfl,b,J m b I,b.same_refl⟩
 have H:∀m,(σ'.h m).isSome->(σ.h m).isSome:=by
  intro m hm;obtain⟨b,I⟩:=Option.isSome_iff_exists.1 hm;simp[J m b I]
 refine⟨F.nt,F.defers,λt=>?_,⟨λm b I=>?_,λm U y L h2 Y Z=>F.hok.inj m U y (H m L) (H U h2) Y Z,F.hok.dom,F.hok.env⟩,F.size,F.old,λm y L h2=>F.mine m y (H m L) h2,F.S0,F.Snew,F.out,λj b I=>F.keep j b (J _ _ I)⟩
 .rcases hs t with e|e
  .rw[e];exact(F.slots t).mono (λ_ h=>h) (λ_ _=>rfl) λm _=>O m
  .rw[e];exact .junk _
 .exact(F.hok.blk m b (J m b I)).mono (λ_ h=>h) (λ_ _ h=>h) (λ_ _=>rfl) (λ_ _=>rfl) rfl rfl λm _=>O m
def aBR (P:Program) (nt:Nat) (ops:Array Oper):List Oper->Option (List aJ)
 | []=>some []
 | o::r=>match nD P nt ops o,aBR P nt ops r with
  |some x,some l=>some (x::l)
  |_,_=>none
def bE (P:Program) (nt:Nat) (drawn:Nat->Array Oper->Option (List Nat)):Code->Option aF
 |.skip=>some .skip
 | .region _ ops draw=>match(if draw then drawn nt ops else some []) with
  |some fl=>(aBR P nt ops ops.toList).map λl=>.region l [] fl
  |none=>none
 | .seq x y=>match bE P nt drawn x,bE P nt drawn y with
  |some x,some y=>some (.seq x y)
  |_,_=>none
 | .cond c x y=>match bE P nt drawn x,bE P nt drawn y with
  |some x,some y=>some (.cond c x y)
  |_,_=>none
 |.block id x=>(bE P nt drawn x).map (.block id)
 |.loop x=>(bE P nt drawn x).map .loop
 |.exit id=>some (.exit id)
 |.ret=>some .ret
 |_=>none
def aF.bare:aF->aF
 |.region ops _ fl=>.region (ops.map aJ.bare) [] fl
 |.seq x y=>.seq x.bare y.bare
 |.cond c x y=>.cond c x.bare y.bare
 |.block id x=>.block id x.bare
 |.loop x=>.loop x.bare
 |.closing _ x=>x.bare
 |.naming _ x=>x.bare
 |c=>c
theorem mD {nt:Nat}{ops:Array Oper}:∀{l:List Oper}{r:List aJ},aBR P nt ops l=some (r.map aJ.bare)->l.length=r.length∧∀(j:Nat) (ao:aJ),r[j]? = some ao->∃o,l[j]? = some o∧nD P nt ops o=some ao.bare
 | [],r,h=>by
  simp only[aBR,Option.some.injEq] at h;have:r=[]:=by simpa using h.symm
  subst this;simp
 | o::l,r,h=>by
  simp only[aBR] at h;split at h
  .rename_i x J I h2;cases r with
   |nil=>simp at h
   | cons ao r =>
    simp only[List.map_cons,Option.some.injEq,List.cons.injEq] at h;obtain⟨rfl,rfl⟩:=h;obtain⟨F,H⟩:=mD h2
    all_goals grind
  .cases h
def aCZ (fl:List Nat) (ops:List aJ) (σ:St):Bool:=
 (fl.all λd=>σ.s.all λp=>!(p.1==d))&&ops.all λo=>match o.op,o.dst with
  |.call _ _ bor,some d=>bor.isEmpty||!fl.contains d||fl.contains (d+2000000)
  |.bsliceC ..,some d=>!fl.contains d
  |.load ..,some d=>!fl.contains (d+1000000)
  |.fieldAddr ..,some d=>!fl.contains (d+1000000)
  |_,_=>true
def iF (P:Program) (drawn:Nat->Array Oper->Option (List Nat)):Prop:=
 ∀ (C:Ctx) (id:Nat) (ops:Array Oper) (aops:List aJ) (fl:List Nat) (K:St->Prop) (Q:Exit->Act->World->Prop) (σ:St) (a:Act) (w:World) (S:Nat->Prop) (ρ:Name->Option Nat) (κ:Name->Nat),
  drawn C.nt ops=some fl->aBR P C.nt ops ops.toList=some (aops.map aJ.bare)->aCZ fl aops σ=true->(∀a w,bV C K a w->Q .normal a w)->vc P K aops σ->OK C σ.f a w S ρ κ->(Code.region id ops true).wp P Q a w
def SemW (P:Program) (C:Ctx) (drawn:Nat->Array Oper->Option (List Nat)) (ac:aF) (N:St->Prop) (E:uC->St->Prop) (σ:St):Prop:=
 ∀ (c:Code) (Q:Exit->Act->World->Prop) (a:Act) (w:World) (S:Nat->Prop) (ρ:Name->Option Nat) (κ:Name->Nat),bE P C.nt drawn c=some ac.bare->
  (∀a w,bV C N a w->Q .normal a w)->(∀i a w,bV C (E (.exit i)) a w->Q (.exit i) a w)->(∀a w,bV C (E .ret) a w->Q .ret a w)->OK C σ.f a w S ρ κ->c.wp P Q a w
def RgK (b:Bool) (A:Prop) (_:Tag (b,A)):Prop:=b=true∧A
theorem RgK.mk {b:Bool}{A:Prop}{t:Tag (b,A)} (F:b=true) (h2:A):RgK b A t:=⟨F,h2⟩
def aN (P:Program) (C:Ctx) (drawn:Nat->Array Oper->Option (List Nat)) (c:aF) (N:St->Prop) (E:uC->St->Prop) (σ:St) (_:Tag (N,E)):Prop:=SemW P C drawn (.loop c) N E σ
def wpc (P:Program) (C:Ctx) (drawn:Nat->Array Oper->Option (List Nat)):aF->(St->Prop)->(uC->St->Prop)->St->Prop
 |.skip,N,_,σ=>N σ
 | .region ops out fl,N,_,σ=>match fl with
  | []=>vc P (fun σ'=>N ⟨aAG σ'.s out,σ'.h⟩) ops σ
  |d::r=>RgK (aCZ (d::r) ops σ) (vc P (fun σ'=>N ⟨aAG σ'.s out,σ'.h⟩) ops σ) .x
 |.seq x y,N,E,σ=>wpc P C drawn x (wpc P C drawn y N E) E σ
 | .cond c x y,N,E,σ=>match evO (look σ.s) c with
  |.v (.bool b)=>Br b (wpc P C drawn x N E σ) (wpc P C drawn y N E σ) .x
  |_=>False
 | .block id x,N,E,σ=>wpc P C drawn x N (λe σ'=>match e with
   |.exit i=>(i=id->N σ')∧(i≠id->E (.exit i) σ')
   |.ret=>E .ret σ') σ
 |.loop x,N,E,σ=>aN P C drawn x N E σ .x
 |.exit id,_,E,σ=>E (.exit id) σ
 |.ret,_,E,σ=>E .ret σ
 |.closing t x,N,E,σ=>wpc P C drawn x (fun σ'=>aEW t σ' N) E σ
 |.naming t x,N,E,σ=>wpc P C drawn x (fun σ'=>aHW t σ' N) E σ
theorem uK {L:Nat->Array Oper->Option (List Nat)} (hl:iF P L):∀(ac:aF) (N:St->Prop) (E:uC->St->Prop) (σ:St),wpc P C L ac N E σ->SemW P C L ac N E σ:=by
 intro ac
 induction ac with
 | skip =>
  intro N E σ J c Q a w S ρ κ F O U Y H;cases c<;>simp[bE,aF.bare] at F
  case skip=>exact wp_skip (O a w ⟨σ,S,ρ,κ,J,H⟩)
  all_goals(first|(split at F<;>simp at F)|skip)
 | region ops out fl =>
  intro N E σ J c Q a w S ρ κ F O U Y H
  have J:aCZ fl ops σ=true∧vc P (fun σ'=>N ⟨aAG σ'.s out,σ'.h⟩) ops σ:=by
   cases fl with
   | nil =>
    grind [aCZ,wpc]
   |cons d r=>exact J
  have hf:∀a w,bV C (fun σ'=>N ⟨aAG σ'.s out,σ'.h⟩) a w->Q .normal a w:=by
   rintro a w ⟨σ',S',ρ',κ',hK,I⟩;exact O a w ⟨_,S',ρ',κ',hK,I.less (aDS _ _) (λ_ _ h=>h)⟩
  cases c
  case region id cops draw =>
   simp only[bE,aF.bare] at F;split at F
   .rename_i hk hh;cases ho:aBR P C.nt cops cops.toList with
    |none=>rw[ho] at F;cases F
    | some l =>
     rw[ho] at F;simp only[Option.map_some,Option.some.injEq,aF.region.injEq,true_and] at F;obtain⟨F,rfl⟩:=F;subst F;cases draw with
     | false =>
      obtain⟨g1,g2⟩:=mD ho;refine wp_region ?_
      have:=aDL (P:=P) hf ops 0 (λj ao hj=>by
        obtain⟨o,q1,q2⟩:=g2 j ao hj;exact⟨o,by simpa using q1,q2⟩) σ a w S ρ κ J.2 H
      all_goals grind [List.range_eq_range']
     | true =>
      grind [iF]
   .cases F
  all_goals(simp only[bE,aF.bare] at F;first|(cases F;done)|(split at F<;>simp at F)|(simp at F))
 | seq x y ihx ihy =>
  intro N E σ J c Q a w S ρ κ F O U Y H;cases c
  case seq cx cy =>
   simp only[bE,aF.bare] at F;split at F
   .rename_i x' y' h1 h2;simp only[Option.some.injEq,aF.seq.injEq] at F;obtain⟨rfl,rfl⟩:=F;refine wp_seq (ihx _ _ _ J cx _ a w S ρ κ h1 (λa w Z=>?_) U Y H);obtain⟨σ',S',ρ',κ',hK,I⟩:=Z;exact ihy _ _ _ hK cy Q a w S' ρ' κ' h2 O U Y I
   .cases F
  all_goals(simp only[bE,aF.bare] at F;first|(cases F;done)|(split at F<;>simp at F)|(simp at F))
 | cond cc x y ihx ihy =>
  intro N E σ J c Q a w S ρ κ F O U Y H;cases c
  case cond co cx cy =>
   simp only[bE,aF.bare] at F;split at F
   .rename_i x' y' h1 h2;simp only[Option.some.injEq,aF.cond.injEq] at F;obtain⟨rfl,rfl,rfl⟩:=F;simp only[wpc] at J;split at J
    .rename_i b hb;have he:=H.ev co;rw[show evO σ.f.s co=_ from hb] at he;have hd:=bL he;cases b
     .exact wp_cond_false hd (ihy _ _ _ (J.get.2 rfl) cy Q a w S ρ κ h2 O U Y H)
     .exact wp_cond_true hd (ihx _ _ _ (J.get.1 rfl) cx Q a w S ρ κ h1 O U Y H)
    .exact J.elim
   .cases F
  all_goals(simp only[bE,aF.bare] at F;first|(cases F;done)|(split at F<;>simp at F)|(simp at F))
 | block id x ih =>
  intro N E σ J c Q a w S ρ κ F O U Y H;cases c
  case block cid cx =>
   simp only[bE,aF.bare] at F;cases h1:bE P C.nt L cx with
   |none=>rw[h1] at F;cases F
   | some x' =>
    rw[h1] at F;simp only[Option.map_some,Option.some.injEq,aF.block.injEq] at F;obtain⟨rfl,rfl⟩:=F;refine wp_block (ih _ _ _ J cx _ a w S ρ κ h1 (λa w Z=>O a w Z) (λi a w Z=>?_) (λa w Z=>Y a w Z) H);obtain⟨σ',S',ρ',κ',hK,I⟩:=Z;simp only[Exit.inBlock];by_cases hi:i=cid
    .rw[if_pos hi];exact O a w ⟨σ',S',ρ',κ',hK.1 hi,I⟩
    .rw[if_neg hi];exact U i a w ⟨σ',S',ρ',κ',hK.2 hi,I⟩
  all_goals(simp only[bE,aF.bare] at F;first|(cases F;done)|(split at F<;>simp at F)|(simp at F))
 |loop x ih=>intro N E σ J;exact J
 | exit id =>
  intro N E σ J c Q a w S ρ κ F O U Y H;cases c
  case exit cid =>
   simp only[bE,aF.bare,Option.some.injEq,aF.exit.injEq] at F;subst F;exact wp_exit (U _ a w ⟨σ,S,ρ,κ,J,H⟩)
  all_goals(simp only[bE,aF.bare] at F;first|(cases F;done)|(split at F<;>simp at F)|(simp at F))
 | ret =>
  intro N E σ J c Q a w S ρ κ F O U Y H;cases c
  case ret=>exact wp_ret (Y a w ⟨σ,S,ρ,κ,J,H⟩)
  all_goals(simp only[bE,aF.bare] at F;first|(cases F;done)|(split at F<;>simp at F)|(simp at F))
 | closing t x ih =>
  intro N E σ J c Q a w S ρ κ F O U Y H;refine ih _ _ _ J c Q a w S ρ κ F (λa' w' Z=>?_) U Y H;obtain⟨σ',S',ρ',κ',ha,I⟩:=Z;exact O a' w' (aGi ha I)
 | naming t x ih =>
  intro N E σ J c Q a w S ρ κ F O U Y H;refine ih _ _ _ J c Q a w S ρ κ F (λa' w' Z=>?_) U Y H;obtain⟨σ',S',ρ',κ',ha,I⟩:=Z;exact O a' w' (aGS ha I)
def LeL (σ σ':St):Prop:=(∀p,p∈σ'.s->look σ.s p.1=p.2∨p.2=.junk)∧∀p,p∈σ'.h->aB σ.h p.1=some p.2
theorem OK.le {σ σ':St} (F:OK C σ.f a w S ρ κ) (h:LeL σ σ'):OK C σ'.f a w S ρ κ:=by
 refine F.less (λt=>?_) (λn b I=>h.2 _ (oC _ _ _ I))
 have H:∀(l:List (Nat×AV)),(∀p,p∈l->look σ.s p.1=p.2∨p.2=.junk)->look l t=look σ.s t∨look l t=.junk:=by
  intro l
  induction l with
  |nil=>intro _;exact .inr rfl
  | cons p r ih =>
   grind [look]
 exact H σ'.s h.1
theorem least (p:Nat->Prop) (h:∃n,p n):∃n,p n∧∀m,p m->n<=m:=by
 classical
 obtain⟨n,F⟩:=h
 induction n using Nat.strongRecOn with
 | ind n ih =>
  grind
theorem aN.intro {F:Nat->Array Oper->Option (List Nat)} (hb:iF P F) {X:Type} (H:X->St) (μ:X->Nat) (x0:X) {c:aF}{N:St->Prop}{E:uC->St->Prop}{σ:St}{tg:Tag (N,E)} (h0:LeL σ (H x0))
  (hr:∀x,wpc P C F c (fun σ'=>∃L,LeL σ' (H L)∧μ L<μ x) E (H x)):aN P C F c N E σ tg:=by
 show SemW P C F (.loop c) N E σ
 intro U Q a w S ρ κ I hN hE hR he;cases U
 case loop cx =>
  simp only[bE,aF.bare] at I;cases h1:bE P C.nt F cx with
  |none=>rw[h1] at I;cases I
  | some L =>
   rw[h1] at I;simp only[Option.map_some,Option.some.injEq,aF.loop.injEq] at I;subst I
   classical
   let G:Act->World->Prop:=λa w=>∃x S ρ κ,OK C (H x).f a w S ρ κ
   let m:Act->World->Nat:=λa w=>if h:∃n x,μ x=n∧∃S ρ κ,OK C (H x).f a w S ρ κ then(least _ h).choose else 0
   refine wp_loop G m ⟨x0,S,ρ,κ,he.le h0⟩ ?_;rintro a w hG
   have Y:∃n x,μ x=n∧∃S ρ κ,OK C (H x).f a w S ρ κ:=by
    grind
   obtain⟨x,hx,S,ρ,κ,ha⟩:=(least _ Y).choose_spec.1;have hm:m a w=μ x:=by simp only[m,dif_pos Y];exact hx.symm
   refine uK hb c _ _ _ (hr x) cx _ a w S ρ κ h1 (λa' w' hg=>?_) hE hR ha;obtain⟨σ',S',ρ',κ',⟨L,hd,hf⟩,Z⟩:=hg;have J:=Z.le hd;refine⟨⟨L,S',ρ',κ',J⟩,?_⟩;have O:∃n x,μ x=n∧∃S ρ κ,OK C (H x).f a' w' S ρ κ:=⟨μ L,L,rfl,S',ρ',κ',J⟩
   have:m a' w'<=μ L:=by
    simp only[m,dif_pos O];exact(least _ O).choose_spec.2 _ ⟨L,rfl,S',ρ',κ',J⟩
   omega
 all_goals(simp only[bE,aF.bare] at I;first|(cases I;done)|(split at I<;>simp at I)|(simp at I))
end
section
variable [Envs]
variable {P:Program}{C:Ctx}{a:Act}{w:World}{S:Nat->Prop}{ρ:Name->Option Nat}{κ:Name->Nat}{h:Name->Option Blk}
theorem aDR (J:HOK S w ρ κ h) {S':Nat->Prop} (hS:∀b,S b->S' b) {E:List Name}{ρ':Name->Option Nat}{κ':Name->Nat}{h':Name->Option Blk}
  (hE:∀j n,E[j]? = some n->ρ' (.b j)=ρ n∧κ' (.b j)=κ n∧∀O,h' (.b j)=some O->∃b,h n=some b∧b.same O) {c:Bool}
  {cs I:List AV}{L:List Name}{vs:Array Value} (H:eG (conv h 8 E c) cs=some (I,L)) (hL:∀n,n∈L->∀y,ρ n=some y->S' y) (hr:∀j,j<cs.length->RV S w ρ κ h (cs.getD j .junk) (vs.getD j undef)) :
  ∀n,n∈L->n∉E∧(h n).isSome:=by
 intro n hn;obtain⟨j,Y,Lj,U,g2⟩:=aAD H n hn;obtain⟨Z,F,g3⟩:=(fU H).2 j Y;rw[U] at F;simp only[Option.some.injEq,Prod.mk.injEq,true_and] at F;subst F;exact(oF J hS hE 8 c _ _ _ _ U (λm H=>hL m (g3 m H)) (hr j Y)).2.2 n g2
theorem aF4 (O:HOK S w ρ κ h) {B:List Name} (hr:B.Nodup) {x y:AV}{v:Value}{F:List Blk}{L1 L2:List Name} (hx:RV S w ρ κ h x v)
  (hc:conv h 8 B false x=some (y,L1)) (h6:wU h B B=some (F,L2)) :
  ∃ (S':Nat->Prop) (ρ':Name->Option Nat) (κ':Name->Nat),HOK S' w ρ' κ' (Hn (F.map some))∧RV S' w ρ' κ' (Hn (F.map some)) y v∧(∀b,S b->S' b)∧
   (∀b,S' b->S b∨∃n,(h n).isSome∧ρ n=some b)∧(∀j z,(((F.map some).getD j none).isSome)->ρ' (.b j)=some z->∃n,(h n).isSome∧ρ n=some z)∧
   ∀j n,B[j]? = some n->ρ' (.b j)=ρ n∧κ' (.b j)=κ n∧∀J,Hn (F.map some) (.b j)=some J->∃b,h n=some b∧b.same J:=by
 obtain⟨h7,hg,h5⟩:=wP _ _ h6
 let L:=L1++L2
 let S1:Nat->Prop:=λy=>S y∨∃n,n∈L∧ρ n=some y
 let ρ0:Name->Option Nat:=λm=>match m with|.b j=>(B[j]?).bind ρ|.t _ _=>none
 let κ0:Name->Nat:=λm=>match m with|.b j=>((B[j]?).map κ).getD 0|.t _ _=>0
 have ha:∀y,S y->S1 y:=λy hy=>.inl hy;have ho:∀n,n∈L1->n∈L:=λn hn=>List.mem_append_left _ hn;have hp:∀n,n∈L2->n∈L:=λn hn=>List.mem_append_right _ hn
 have hE:∀j n,B[j]? = some n->ρ0 (.b j)=ρ n∧κ0 (.b j)=κ n∧∀J,Hn (F.map some) (.b j)=some J->∃b,h n=some b∧b.same J:=by
  intro j n Z;refine⟨by simp[ρ0,Z],by simp[κ0,Z],λJ Y=>?_⟩;obtain⟨b,b2,Lj,U,H,g3,_,_⟩:=hg j n Z
  have:J=b2:=by
   grind [Hn]
  subst this;refine⟨b,U,?_⟩;cases b with
  | var c z =>
   simp only[eX] at H;cases I:eG (conv h 8 B false) c with
   |none=>rw[I] at H;cases H
   | some p =>
    rw[I] at H;simp only[Option.map_some,Option.some.injEq,Prod.mk.injEq] at H;rw[←H.1];exact((fU I).1).symm
  | arr k l z =>
   grind [eX,Blk.same_refl]
 have hf:∀m,m∈L->∀y,ρ m=some y->S1 y:=λm I y hy=>.inr ⟨m,I,hy⟩;have hd:=oF O ha (κ':=κ0) hE 8
 have hh:∀n,n∈L->n∉B∧(h n).isSome:=by
  intro n hn;rcases List.mem_append.1 hn with hn|hn
  .exact(hd false _ _ _ _ hc (λm I=>hf m (ho m I)) hx).2.2 n hn
  .obtain⟨n',b,J,Lj,U,H,g3,g4⟩:=h5 n hn;cases b with
   | arr k l z =>
    grind [eX]
   | var c z =>
    simp only[eX] at g3;cases I:eG (conv h 8 B false) c with
    |none=>rw[I] at g3;cases g3
    | some p =>
     obtain⟨c',Lp⟩:=p;rw[I] at g3;simp only[Option.map_some,Option.some.injEq,Prod.mk.injEq] at g3;obtain⟨_,rfl⟩:=g3;obtain⟨x,cs,T,fr,q1,q2,q3,q4,_,q5,q6,q7⟩:=O.blk n' _ H;obtain⟨i,hi⟩:=List.mem_iff_getElem?.1 U;obtain⟨b1,b2,Lb,p1,p2,p3,p4,p5⟩:=hg i n' hi;rw[H] at p1;obtain rfl:=Option.some.inj p1;simp only[eX,I,Option.map_some,Option.some.injEq,Prod.mk.injEq] at p2;obtain⟨_,rfl⟩:=p2;exact aDR O ha (κ':=κ0) hE I (λm I=>hf m (hp m (p5 m I))) (λj Z=>(q7 j Z).2) n g4
 have hv:∀n b,n∈B->h n=some b->b.fz=false->∀x,ρ n=some x->¬S1 x:=by
  rintro n b hn hb hz x hx (hs|⟨m,I,hmx⟩)
  .have:=O.blk n b hb;cases b with
   | var c z =>
    obtain⟨y,_,_,_,U,_,_,H,_⟩:=this;obtain rfl:=Option.some.inj (hx.symm.trans U);exact H hz hs
   | arr k l z =>
    obtain⟨_,⟨U,_⟩|⟨y,_,_,_,U,_,_,H,_⟩⟩:=this
    .rw[hx] at U;cases U
    .obtain rfl:=Option.some.inj (hx.symm.trans U);exact H hz hs
  all_goals grind [HOK]
 have he:∀j J,Hn (F.map some) (.b j)=some J->∃n b Lj,B[j]? = some n∧h n=some b∧eX h B b=some (J,Lj)∧(∀m,m∈Lj->m∈L2)∧J.fz=false:=by
  intro j J Y
  have Z:j<B.length:=by
   grind [Hn]
  obtain⟨b,b2,Lj,U,H,g3,g4,g5⟩:=hg j B[j] (by simp[Z])
  have:J=b2:=by
   grind [Hn]
  subst this;exact⟨B[j],b,Lj,by simp[Z],U,H,g5,g4⟩
 have ht:HOK S1 w ρ0 κ0 (Hn (F.map some)):=by
  refine⟨λm J Y=>?_,λm m' x h1 h2 h3 h4=>?_,?_,O.env.mono ha λ_ _=>rfl⟩
  .cases m with
   |t=>simp[Hn] at Y
   | b j =>
    obtain⟨n,b,Lj,g0,U,H,g5,g4⟩:=he j J Y;obtain⟨e1,e2,_⟩:=hE j n g0;have hb:=O.blk n b U;have hq:=hv n b (List.mem_of_getElem? g0) U;cases b with
    | var c z =>
     simp only[eX] at H;cases I:eG (conv h 8 B false) c with
     |none=>rw[I] at H;cases H
     | some p =>
      obtain⟨c',Lp⟩:=p;rw[I] at H;simp only[Option.map_some,Option.some.injEq,Prod.mk.injEq] at H;obtain⟨rfl,rfl⟩:=H;obtain⟨x,cs,T,fr,q1,q2,q3,q4,hk,q5,q6,q7⟩:=hb;obtain⟨l1,l2⟩:=fU I;refine⟨x,cs,T,fr,by rw[e1];exact q1,q2,q3,λhz=>hq hz x q1,λhz=>.inl (hk hz),by rw[e2];exact q5,by omega,λi hi=>⟨(q7 i (by omega)).1,?_⟩⟩;obtain⟨Li,l3,l4⟩:=l2 i (by omega);exact(hd false _ _ _ _ l3 (λm I=>hf m (hp m (g5 m (l4 m I)))) (q7 i (by omega)).2).1 rfl
    | arr k l z =>
     simp only[eX,Option.some.injEq,Prod.mk.injEq] at H;obtain⟨rfl,rfl⟩:=H;obtain⟨q0,⟨q1,q2⟩|⟨x,cs,T,fr,q1,q2,q3,q4,hk,q5,q6,q7⟩⟩:=hb
     .exact⟨q0,.inl ⟨by rw[e1];exact q1,q2⟩⟩
     .exact⟨q0,.inr ⟨x,cs,T,fr,by rw[e1];exact q1,q2,q3,λhz=>hq hz x q1,λhz=>.inl (hk hz),by rw[e2];exact q5,q6,λi j hi Z=>⟨(q7 i j hi Z).1,(q7 i j hi Z).2.mono ha λ_ _=>rfl⟩⟩⟩
  .cases m with
   |t=>simp[Hn] at h1
   | b j =>
    cases m' with
    |t=>simp[Hn] at h2
    | b j' =>
     obtain⟨b1,hw⟩:=Option.isSome_iff_exists.1 h1;obtain⟨b2,h0⟩:=Option.isSome_iff_exists.1 h2;obtain⟨n,b,_,g0,U,_⟩:=he j b1 hw;obtain⟨n',J,_,hl,hu,_⟩:=he j' b2 h0;rw[(hE j n g0).1] at h3;rw[(hE j' n' hl).1] at h4;obtain rfl:=O.inj n n' x (by simp[U]) (by simp[hu]) h3 h4;congr 1;have e1:=pF hr g0;have e2:=pF hr hl;rw[e1] at e2;exact Option.some.inj e2
  .rintro y (hy|⟨n,hn,hy⟩)
   .exact O.dom y hy
   .exact O.lt (hh n hn).2 hy
 refine⟨S1,ρ0,κ0,ht,(hd false _ _ _ _ hc (λm I=>hf m (ho m I)) hx).1 rfl,ha,?_,?_,hE⟩
 .grind
 .intro j z Z hz;obtain⟨J,Y⟩:=Option.isSome_iff_exists.1 Z;obtain⟨n,b,_,g0,U,_⟩:=he j J Y
  all_goals grind
/-! ## what a function hands back -/
def aDu (P:Program) (σ:St) (K:AV->Prop):ResultVar->Prop
 |.tmp t=>K (look σ.s t)
 | .cell A T=>match uG P T with
  |some (g,k)=>rd (evO (look σ.s)) (aB σ.h) K (.load g k (.tmp A))
  |none=>False
def uE (P:Program) (σ:St) (K:List AV->Prop):List ResultVar->Prop
 | []=>K []
 |r::rs=>aDu P σ (λx=>uE P σ (λxs=>K (x::xs)) rs) r
def uZ:List AV->AV
 | [x]=>x
 |l=>.tup l
def aBN (P:Program) (rs:List ResultVar) (B:List Name) (r:AV) (hout:List Blk) (σ:St):Prop:=
 uE P σ (λxs=>∃L1 L2,conv (aB σ.h) 8 B false (uZ xs)=some (r,L1)∧wU (aB σ.h) B B=some (hout,L2)) rs
def aGO (tmps:Array Value):ResultVar->Sem Value
 |.tmp t=>pure (tmps.getD t undef)
 |.cell A T=>do loadVar T (←asAddr (tmps.getD A undef))
theorem aJ6 {σ:St}{K:AV->Prop} (I:OK C σ.f a w S ρ κ) {r:ResultVar} (h:aDu P σ K r) :
  ∃x v,K x∧RV S w ρ κ σ.f.h x v∧(aGO a.tmps r).run P w=.ok v w:=by
 cases r with
 |tmp t=>exact⟨_,_,h,I.slots t,by simp[aGO]⟩
 | cell A T =>
  simp only[aDu] at h;split at h
  .rename_i g k U;obtain⟨x,v,L,H,Z⟩:=aHS I U h;refine⟨x,v,L,Z,?_⟩;simp only[aGO];have e:a.eval (.tmp A)=a.tmps.getD A undef:=rfl;rw[e] at H;simp only[Instr.loadAt,Sem.run_bind] at H;simp only[rd] at h;have F:=I.ev (.tmp A);rw[e] at F;generalize a.tmps.getD A undef=va at F H⊢;split at h
   .rename_i c J;rw[show evO σ.f.s (.tmp A)=_ from J] at F;cases wJ F with
    | ro _ b off xs _ _ _ _ =>
     grind [Sem.run_bind,asAddr,Instr.sureAddr,Sem.run_pure]
   .rename_i n e' c J;rw[show evO σ.f.s (.tmp A)=_ from J] at F;split at h
    .rename_i b O;obtain⟨y,hy,Y⟩:=gJ F b O
     all_goals grind [Sem.run_bind,asAddr,Instr.sureAddr,Sem.run_pure]
    .exact h.elim
   .exact h.elim
  .exact h.elim
theorem aFs {σ:St} (F:OK C σ.f a w S ρ κ):∀{H:List ResultVar}{K:List AV->Prop},uE P σ K H->
  ∃ xs vs,K xs∧vs.length=xs.length∧(∀j,j<xs.length->RV S w ρ κ σ.f.h (xs.getD j .junk) (vs.getD j undef))∧
   (H.mapM (aGO a.tmps)).run P w=.ok vs w
 | [],K,h=>⟨[],[],h,rfl,by simp,by simp⟩
 | r::H,K,h=>by
  obtain⟨x,v,I,h2,O⟩:=aJ6 F h;obtain⟨xs,vs,J,L,U,Y⟩:=aFs F I;refine⟨x::xs,v::vs,J,by simp[L],λj Z=>?_,?_⟩
  all_goals grind [Sem.run_bind,Result.andThen_ok,Sem.run_pure,AV,uE]
theorem tL {σ:St} (H:OK C σ.f a w S ρ κ) {fn:Func}{K:AV->Prop} (h:uE P σ (λxs=>K (uZ xs)) fn.results.toList) :
  ∃x v,K x∧RV S w ρ κ σ.f.h x v∧(results fn a.tmps).run P w=.ok v w:=by
 obtain⟨xs,vs,I,h2,F,J⟩:=aFs H h
 have U:(results fn a.tmps).run P w=.ok (if h:vs.toArray.size=1 then vs.toArray[0] else .tuple vs.toArray) w:=by
  have O:fn.results.mapM (aGO a.tmps)=(do pure (←fn.results.toList.mapM (aGO a.tmps)).toArray):=by
   rw[←Array.toArray_toList (xs:=fn.results),List.mapM_toArray];rfl
  change (do let vs ←fn.results.mapM (aGO a.tmps);pure (if h:vs.size=1 then vs[0] else .tuple vs):Sem Value).run P w=_
  rw[O];simp only[Sem.run_bind,J,Result.andThen_ok,Sem.run_pure]
 refine⟨_,_,I,?_,U⟩
 match xs,vs,h2,F with
 | [x],[v],_,F=>simpa[uZ] using F 0 (by simp)
 | [],[],_,F=>exact .tup _ _ rfl (by simp)
 |x::x'::r,v::v'::r',h2,F=>exact .tup _ _ (by simpa using h2.symm) λj L=>by simpa using F j L
def ini:Nat->List AV->List (Nat×AV)
 |_,[]=>[]
 |i,x::r=>(i,x)::ini (i+1) r
theorem aAE:∀(l:List AV) (i t:Nat),look (ini i l) t=if i<=t∧t<i+l.length then l.getD (t-i) .junk else .junk
 | [],i,t=>by simp[ini,look]
 | x::r,i,t=>by
  simp only[ini,look,aAE r (i+1) t,List.length_cons]
  all_goals grind
def aBe:Nat->List Blk->List (Name×Blk)
 |_,[]=>[]
 |i,b::r=>(.b i,b)::aBe (i+1) r
theorem aAI (d j:Nat):∀(l:List Blk) (i:Nat),aB (aBe i l) (.t d j)=none
 | [],i=>rfl
 |b::r,i=>by simp[aBe,aB,aAI d j r]
theorem aAJ (j:Nat):∀(l:List Blk) (i:Nat),aB (aBe i l) (.b j)=if i<=j then l[j-i]? else none
 | [],i=>by simp[aBe,aB]
 | b::r,i=>by
  simp only[aBe,aB,Name.b.injEq,aAJ j r]
  all_goals grind
theorem kC (l:List Blk):aB (aBe 0 l)=Hn (l.map some):=by
 funext n
 cases n with
 |t d j=>rw[aAI];rfl
 | b j =>
  grind [aAJ,Hn]
theorem Fn.intro {H:Nat->Array Oper->Option (List Nat)}{f:FuncId}{fn:Func} (hd:iF P H) {I:Code}{ac:aF}{hin:List Blk}{args:List AV}{r:AV}{F:List Blk} (B:List Name)
  (hf:P.funcs[f]? = some fn) (J:fn.body=some I) (U:fn.name≠"runtime.NumGoroutine") (hc:bE P fn.ntmps H I=some ac.bare) (hl:args.length<=fn.ntmps) (hh:B.Nodup)
  (hB:∀j,j<hin.length->B[j]? = some (.b j))
  (hw:∀C:Ctx,C.nt=fn.ntmps->wpc P C H ac (aBN P fn.results.toList B r F) (λe σ=>match e with|.ret=>aBN P fn.results.toList B r F σ|.exit _=>False) ⟨ini 0 args,aBe 0 hin⟩) :
  Fn P f hin args r (F.map some):=by
 refine⟨⟨fn,I,hf,J,U⟩,?_⟩;intro S w ρ κ vs hk _ ho O
 let C:Ctx:={nt:=fn.ntmps,w0:=w,S0:=S,Mut:=aAX ρ hin,ρ0:=λj=>ρ (.b j),κ0:=λj=>κ (.b j),h0:=λj=>hin[j]?}
 have hC:=hw C rfl;refine calls_of_wp hf J ?_
 have L:∀a w',bV C (aBN P fn.results.toList B r F) a w'->a.defers=[]∧∃v,(results fn a.tmps).run P w'=.ok v w'∧
   ∃v2 S' ρ' κ',Ending.returned v=.returned v2∧Post S w ρ κ hin S' w' ρ' κ' (F.map some)∧RV S' w' ρ' κ' (Hn (F.map some)) r v2:=by
  rintro a w' ⟨σ,S1,ρ1,κ1,hK,hok1⟩;refine⟨hok1.defers,?_⟩;obtain⟨x,v,⟨L1,L2,Y,h2⟩,h3,h4⟩:=tL hok1 (K:=λx=>∃L1 L2,conv (aB σ.h) 8 B false x=some (r,L1)∧wU (aB σ.h) B B=some (F,L2)) hK;refine⟨v,h4,v,?_⟩;obtain⟨S',ρ',κ',g1,g2,g3,g4,g5,g6⟩:=aF4 hok1.hok hh h3 Y h2;refine⟨S',ρ',κ',rfl,⟨g1,hok1.size,λb J hm=>hok1.old b J hm,λb J=>g3 b (hok1.S0 b J),λb J=>?_,λj z Z hz=>?_,hok1.out,λj b' Z he=>?_⟩,g2⟩
  .rcases g4 b J with h|⟨n,hn,h⟩
   .exact hok1.Snew b h
   .exact .inr (hok1.mine n b hn h)
  .obtain⟨n,hn,h⟩:=g5 j z Z hz;exact hok1.mine n z hn h
  .obtain⟨e1,e2,e3⟩:=g6 j (.b j) (hB j Z);obtain⟨b,h5,h6⟩:=e3 b' he;obtain⟨e4,e5,b0,h7,h8⟩:=hok1.keep j b h5
   all_goals grind [Blk.same_trans]
 refine uK hd ac _ _ _ hC I _ _ w S ρ κ hc (λa w' hg=>L a w' hg) (λi a w' ⟨_,_,_,_,h,_⟩=>h.elim) (λa w' hg=>L a w' hg) ?_
 have ha:∀n,((Hn (hin.map some)) n).isSome->∃j,j<hin.length∧n=.b j:=by
  grind [Hn,Name]
 refine⟨?_,rfl,λt=>?_,by simp only[St.f,kC];exact hk,Nat.le_refl _,λ_ _ _=>rfl,λn x Y h2=>?_,λ_ h=>h,λb J=>.inl J,⟨rfl,rfl⟩,λj b J=>?_⟩
 .simp only[C,Array.size_append,Array.size_replicate];omega
 .simp only[St.f,aAE,Nat.zero_le,true_and,Nat.zero_add,Nat.sub_zero,kC];split
  .rename_i ht
   have e:(vs++Array.replicate (fn.ntmps-vs.size) undef).getD t undef=vs.getD t undef:=by
    have Y:t<vs.size:=by omega
    simp[Array.getElem?_append,Y]
   rw[e];exact O t ht
  .exact .junk _
 .simp only[St.f,kC] at Y;obtain⟨j,Z,rfl⟩:=ha n Y;exact .inr ⟨j,Z,h2⟩
 .simp only[St.f,kC] at J;refine⟨rfl,rfl,b,?_,b.same_refl⟩
  all_goals grind [Hn]
theorem iF.none:iF P (λ_ _=>.none):=by
 grind [iF]
end
section
variable [Envs]
def wH:AOp->Bool
 |.box _|.alloc _|.bslice .. | .mk .. | .call .. | .store .. | .append .. | .appendC .. | .bsliceC .. | .clr ..=>false
 |_=>true
end
section
variable [Envs]
def aM:AOp->List Operand
 |.mv x=>[x]
 |.pick c a b=>[c,a,b]
 |.load _ _ a=>[a]
 |.fieldAddr _ x=>[x]
 |.loadV _ _ a=>[a]
 |.fieldV _ x=>[x]
 |.field _ _ _ x=>[x]
 |.idxSl _ x i=>[x,i]
 |.idxArr _ _ x i=>[x,i]
 |.idxAgg _ _ _ x i=>[x,i]
 |.idxStr x i=>[x,i]
 |.bin _ x y=>[x,y]
 |.binS _ x y=>[x,y]
 |.binB _ x y=>[x,y]
 |.un _ x=>[x]
 |.conv _ x=>[x]
 |.b2s x=>[x]
 |.eqA _ _ x y=>[x,y]
 |.idxB x y=>[x,y]
 |.len x=>[x]
 |.lenS x=>[x]
 |.lenC _=>[]
 |.slc _ x a b=>x::(a.toList++b.toList)
 |.sstr x a b=>x::(a.toList++b.toList)
 |.nilc x=>[x]
 |.extract x _=>[x]
 |.build _ ps=>ps.map λp=>p.2.2
 |.mkfn _ cs=>cs
 |.mm _ x y=>[x,y]
 |.box x=>[x]
 |.alloc _=>[]
 |.bslice _ _ _ ps=>ps.map λp=>p.2
 |.mk _ _ _ n=>[n]
 |.call f a _=>f::a
 |.store _ a x=>[a,x]
 |.append _ _ a x=>[a,x]
 |.appendC _ _ a x=>[a,x]
 |.bsliceC _ _ _ ps=>ps.map λp=>p.2
 |.clr _ _ x=>[x]
def Agr (N:Name->Prop) (h h':Name->Option Blk):Prop:=∀n,¬N n->(h n).map frz=(h' n).map frz
def Off (N:Name->Prop) (x:AV):Prop:=∀n,N n->x.has n=false
def dJ (N:Name->Prop) (c:List AV):Prop:=∀n,N n->oD n c=false
def aDl (N:Name->Prop) (b:Blk):Prop:=∀n,N n->b.has n=false
variable {N:Name->Prop}{h h':Name->Option Blk}{ev ev':Operand->AV}
theorem Agr.symm (F:Agr N h h'):Agr N h' h:=λn H=>(F n H).symm
theorem Agr.none (F:Agr N h h') {n:Name} (I:¬N n) (H:h n=none):h' n=none:=by
 have:=F n I;rw[H] at this;cases hx:h' n with
 |none=>rfl
 |some b=>rw[hx] at this;simp at this
theorem Agr.some (H:Agr N h h') {n:Name} (J:¬N n) {b:Blk} (I:h n=some b):∃F,h' n=some F∧frz F=frz b:=by
 have:=H n J;rw[I] at this;cases hx:h' n with
 |none=>rw[hx] at this;simp at this
 |some F=>rw[hx] at this;simp at this;exact⟨F,rfl,this.symm⟩
theorem aMc {b F:Blk} (H:frz F=frz b) (e:Nat):F.row e=b.row e:=by
 cases b<;>cases F<;>simp[frz] at H<;>simp[Blk.row,H];cases e<;>simp[Blk.row,H]
theorem yX {b:Blk}{k:Nat}{l:List (List AV)}{z:Bool} (H:frz b=frz (.arr k l z)):∃F,b=.arr k l F:=by
 grind [frz,Blk]
theorem aCa {b:Blk}{c:List AV}{z:Bool} (H:frz b=frz (.var c z)):∃F,b=.var c F:=by
 grind [frz,Blk]
theorem aMd {b F:Blk} (H:frz F=frz b) (n:Name):F.has n=b.has n:=by
 grind [frz,Blk.has,Blk]
theorem Off.ptr {n:Name}{e c:Nat} (H:Off N (.ptr n e c)):¬N n:=λF=>by simpa[AV.has] using H n F
theorem Off.loc {n:Name}{e c:Nat} (H:Off N (.loc n e c)):¬N n:=λF=>by simpa[AV.has] using H n F
theorem Off.agg {c:List AV} (H:Off N (.agg c)):dJ N c:=λn F=>by simpa[AV.has] using H n F
theorem Off.tup {c:List AV} (H:Off N (.tup c)):dJ N c:=λn F=>by simpa[AV.has] using H n F
theorem Off.fn {f:FuncId}{c:List AV} (H:Off N (.fn f c)):dJ N c:=λn F=>by simpa[AV.has] using H n F
theorem dJ.cons {x:AV}{c:List AV} (H:dJ N (x::c)):Off N x∧dJ N c:=
 ⟨λn F=>by have:=H n F;simp[oD] at this;exact this.1,λn F=>by have:=H n F;simp[oD] at this;exact this.2⟩
theorem dJ.mk_cons {x:AV}{c:List AV} (I:Off N x) (H:dJ N c):dJ N (x::c):=λn F=>by simp[oD,I n F,H n F]
theorem dJ.nil:dJ N []:=λ_ _=>rfl
theorem dJ.mem:∀{c:List AV},dJ N c->∀x,x∈c->Off N x
 | [],_,x,hx=>by cases hx
 | y::r,ho,x,hx=>by
  rcases List.mem_cons.1 hx with rfl|hx
  .exact ho.cons.1
  .exact dJ.mem ho.cons.2 x hx
theorem dJ.of_mem:∀{c:List AV},(∀x,x∈c->Off N x)->dJ N c
 | [],_=>dJ.nil
 |_::_,h=>dJ.mk_cons (h _ (by simp)) (dJ.of_mem λx F=>h x (by simp[F]))
theorem dJ.getD {c:List AV} (H:dJ N c) (j:Nat):Off N (c.getD j .junk):=λn F=>qZ (H n F)
theorem dJ.drop {c:List AV} (F:dJ N c) (j:Nat):dJ N (c.drop j):=dJ.of_mem λx H=>F.mem x (List.mem_of_mem_drop H)
theorem dJ.take {c:List AV} (F:dJ N c) (j:Nat):dJ N (c.take j):=dJ.of_mem λx H=>F.mem x (List.mem_of_mem_take H)
theorem Off.v (x:Value):Off N (.v x):=λ_ _=>rfl
theorem Off.junk:Off N .junk:=λ_ _=>rfl
theorem Off.sl (k:Nat) (l:List (List AV)):Off N (.sl k l):=λ_ _=>rfl
theorem Off.ro (c:List AV):Off N (.ro c):=λ_ _=>rfl
theorem Off.mk_agg {c:List AV} (H:dJ N c):Off N (.agg c):=λn F=>by simpa[AV.has] using H n F
theorem Off.mk_fn {f:FuncId}{c:List AV} (H:dJ N c):Off N (.fn f c):=λn F=>by simpa[AV.has] using H n F
theorem Off.mk_tup {c:List AV} (H:dJ N c):Off N (.tup c):=λn F=>by simpa[AV.has] using H n F
theorem Off.mk_ptr {n:Name}{e c:Nat} (H:¬N n):Off N (.ptr n e c):=λm F=>by
 grind [AV.has]
theorem Off.mk_loc {n:Name}{e c:Nat} (H:¬N n):Off N (.loc n e c):=λm F=>by
 grind [AV.has]
theorem aCC (H:Agr N h h') {x:AV} (I:Off N x):nN h x=nN h' x:=by
 cases x<;>try rfl
 case loc n off len =>
  simp only[nN];cases hx:h n with
  |none=>rw[H.none I.loc hx]
  | some b =>
   obtain⟨J,F,e⟩:=H.some I.loc hx;rw[F];cases b<;>cases J<;>simp[frz] at e<;>rfl
 case ptr n e c =>
  simp only[nN];cases hx:h n with
  |none=>rw[H.none I.ptr hx]
  | some b =>
   obtain⟨J,F,e⟩:=H.some I.ptr hx;rw[F];rfl
theorem aBt {p q:AV->Bool}:∀{c:List AV},(∀x,x∈c->p x=q x)->c.all p=c.all q
 | [],_=>rfl
 |x::r,h=>by simp only[List.all_cons,h x (by simp),aBt (c:=r) λy F=>h y (by simp[F])]
theorem aDb (F:Agr N h h') {x:AV} (H:Off N x):kG h x=kG h' x:=by
 cases x
 case agg c =>
  simp only[kG];rw[aBt (q:=nN h') λx I=>aCC F (H.agg.mem x I)]
 all_goals simp only[kG,aCC F H]
theorem aHk {x:AV} (H:Off N x) {c:List AV} (F:kG h x=some c):dJ N c:=by
 cases x
 case agg c' =>
  simp only[kG] at F;split at F
  .obtain rfl:=Option.some.inj F;exact H.agg
  .cases F
 all_goals grind [kG,dJ.mk_cons,dJ.nil]
theorem zS (J:Agr N h h'):∀{F:List (Nat×Nat×Operand)}{cs:List AV}{K:List AV->Prop},(∀p,p∈F->ev p.2.2=ev' p.2.2∧Off N (ev p.2.2))->layAll ev h cs F K->layAll ev' h' cs F K
 | [],_,_,_,hk=>hk
 | (o,n,x)::r,cs,K,he,hk=>by
  obtain⟨H,I⟩:=he (o,n,x) (by simp);simp only at H I;simp only[layAll] at hk⊢;rw[←H,←aDb J I];split at hk
  .exact⟨hk.1,zS J (λp L=>he p (by simp[L])) hk.2⟩
  .exact hk
theorem xP:∀{H:List (Nat×Nat×Operand)}{cs:List AV}{K F:List AV->Prop},(∀c,K c->F c)->layAll ev h cs H K->layAll ev h cs H F
 | [],_,_,_,hh,hk=>hh _ hk
 | (o,n,x)::r,cs,K,F,hh,hk=>by
  simp only[layAll] at hk⊢;split at hk
  .exact⟨hk.1,xP hh hk.2⟩
  .exact hk
theorem wF:∀{F:List (Nat×Nat×Operand)}{cs:List AV}{K:List AV->Prop},layAll ev h cs F K->∃c,K c∧layAll ev h cs F (λH=>H=c)
 | [],cs,_,hk=>⟨cs,hk,rfl⟩
 | (o,n,x)::r,cs,K,hk=>by
  simp only[layAll] at hk⊢;split at hk
  .obtain⟨c,I,h2⟩:=wF hk.2;exact⟨c,I,hk.1,h2⟩
  .exact hk.elim
end
end Go.Vs
