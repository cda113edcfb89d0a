/- Regions whose order is open. -/
import Derived.Test.YtkgeiaideklmoaaGreatVsM
set_option linter.all false
set_option maxHeartbeats 8000000
namespace Go.Vs
section
variable [Envs]
variable {P:Program}{C:Ctx}{a:Act}{w:World}{S:Nat->Prop}{ρ:Name->Option Nat}{κ:Name->Nat}
theorem bR {σ:St}{K:St->Prop}{o:Oper}{Q:Exit->Act->World->Prop} (H:OK C σ.f a w S ρ κ) (J:∀d',o.dst=some d'->d'<C.nt) {s:Sem Value}
  (L:execOp a.eval o=(do pure (Next.value (←s)))) (h:Ans P S w ρ κ σ.f.h (λv=>K ⟨put o.dst v σ.s,σ.h⟩) s):o.wp P a w (cK C K) Q:=by
 obtain⟨x,v,I,F,O⟩:=h;exact wF H J ⟨x,v,I,by rw[L];exact aHZ F,O⟩
theorem yT {σ:St}{K:St->Prop}{o:Oper}{d:Nat}{Q:Exit->Act->World->Prop} (H:o.dst=some d) (U:d<C.nt) {s:Sem Value}
  (Y:execOp a.eval o=(do pure (Next.value (←s))))
  (h:Made P C σ.f a w S (.t d 0) (λv b=>(bT (.t d 0) σ=true∧b.has (.t d 0)=false)∧K ⟨(d,v)::σ.s,(.t d 0,b)::σ.h⟩) s):o.wp P a w (cK C K) Q:=by
 obtain⟨x,b,v,w',⟨⟨L,h2⟩,O⟩,I,J⟩:=h;obtain⟨ρ',κ',F,Z⟩:=J (dP L) h2
 have e:(St.mk σ.s ((.t d 0,b)::σ.h)).f=⟨σ.f.s,hput σ.f.h (.t d 0) (some b)⟩:=by
  simp only[St.f,FSt.mk.injEq,Ci]
  funext m;simp only[aA,hput]
 unfold Oper.wp;rw[Y,aHZ I];show cK C K (a.put o.dst v) w'
 rw[←e] at F;rw[H];exact cK.put (σ:=⟨σ.s,(.t d 0,b)::σ.h⟩) F (by rw[e];exact Z) (λd' h=>by rw[←Ay h];exact U) O
theorem bare_eq {op F:AOp} (h:op.bare0=F):(∃f args bor,op=.call f args bor∧F=.call f args [])∨((∀f args bor,op≠.call f args bor)∧op=F):=by
 cases op<;>simp only[AOp.bare0] at h<;>first
  |exact .inr ⟨by simp,h⟩
  |exact .inl ⟨_,_,_,rfl,h.symm⟩
theorem d9 {op F:AOp} (h:some F=some op.bare0) (H:∀f args bor,F≠.call f args bor:=by intro _ _ _ h;cases h):op=F:=by
 rcases bare_eq (Ay h).symm with⟨f,args,bor,_,h⟩|⟨_,h⟩
 .exact absurd h (H _ _ _)
 .exact h
theorem aFW {T:TypeId}{g:Bool}{k:Nat} (h:wK P T=some (g,k)):jA P T=some g:=by
 unfold wK at h;split at h
 .rename_i n F h2;simp only[Ad,AL] at h;rw[F,h.1]
 .rename_i n F h2;simp only[Ad,AL] at h;rw[F,h.1]
 .cases h
theorem aHz {α:Type}{x:Array α}{p q:α} (h:x.toList=[p,q]):x=#[p,q]:=by
 apply Array.ext';simpa using h
theorem arr1 {α:Type}{x:Array α}{p:α} (h:x.toList=[p]):x=#[p]:=by
 apply Array.ext';simpa using h
theorem aFB {o:Oper}{c:Call}{b:Builtin} (H:o.op=.call c) (F:c.callee=.builtin b) :
  execOp a.eval o=builtin b c.argTypes o.type (c.args.map fun|.const _=>true|_=>false) (c.args.map a.eval):=by
 simp only[execOp,H,resolve,F];rfl
theorem pY {σ:St}{K:St->Prop}{o:Oper}{op:AOp}{Q:Exit->Act->World->Prop} (F:comp P o.op=some op.bare0) (H:OK C σ.f a w S ρ κ) (O:∀d',o.dst=some d'->d'<C.nt)
  (I:bP P o.dst σ K op):o.wp P a w (cK C K) Q:=by
 generalize J:o.op=oop at F;cases oop
 case move x =>
  obtain rfl:=d9 F;exact wF H O ⟨_,_,I,by simp[execOp,J],H.ev x⟩
 case assign x =>
  obtain rfl:=d9 F;exact wF H O ⟨_,_,I,by simp[execOp,J],H.ev x⟩
 case pick c x y =>
  obtain rfl:=d9 F;have hy:=H.ev c;simp only[bP,rd] at I;split at I
  .rename_i t ht;rw[show evO σ.f.s c=_ from ht] at hy;have:=bE hy;cases t
   .exact wF H O ⟨_,_,I.2 rfl,by simp[execOp,J,this,asBool],H.ev y⟩
   .exact wF H O ⟨_,_,I.1 rfl,by simp[execOp,J,this,asBool],H.ev x⟩
  .exact I.elim
 case alloc t =>
  simp only[comp] at F;cases hz:zOf P t with
  |none=>rw[hz] at F;cases F
  | some z =>
   rw[hz] at F;obtain rfl:=d9 F;simp only[bP] at I;split at I
   .rename_i d L;exact yT L (O d L) (by simp only[execOp,J]) (aLG H hz I)
   .exact I.elim
 case box t x =>
  obtain rfl:=d9 F;simp only[bP] at I;split at I
  .rename_i d L;exact yT L (O d L) (by simp only[execOp,J]) (aOe (T:=t) H I)
  .exact I.elim
 case build t ps =>
  simp only[comp] at F;split at F
  .rename_i fs z U hz;split at F
   .rename_i hq;cases hp:bpS P fs ps.toList with
    |none=>rw[hp] at F;cases F
    | some rp =>
     rw[hp] at F;obtain rfl:=d9 F;exact bR H O (by simp only[execOp,J]) (aBk H U hz hq hp I)
   .cases F
  .rename_i m e z U hz;cases hn:jY P e with
   |none=>rw[hn] at F;cases F
   | some n =>
    rw[hn] at F;obtain rfl:=d9 F;exact bR H O (by simp only[execOp,J]) (aB2 H U hz hn I)
  .cases F
 case buildSlice t m ps =>
  simp only[comp] at F;split at F
  .rename_i e U;split at F
   .rename_i k z hk hz;obtain rfl:=d9 F;simp only[bP] at I;split at I
    .rename_i d L;refine yT (σ:=σ) (S:=S) (K:=K) L (O d L) (s:=Instr.buildSlice t m (ps.map λ(i,x)=>(i,a.eval x))) (by simp only[execOp,J]) ?_;have:=aJI H U hk hz I
     have e1:(ps.toList.map λp=>(p.1,a.eval p.2)).toArray=ps.map λ(i,x)=>(i,a.eval x):=by
      apply Array.ext';simp
     rw[e1] at this;exact this
    .exact I.elim
   .cases F
  .cases F
 case load t x =>
  simp only[comp] at F;cases hl:wK P t with
  |none=>rw[hl] at F;cases F
  | some p =>
   rw[hl] at F;obtain rfl:=d9 F;exact bR H O (by simp only[execOp,J]) (aH6 H hl I)
 case store t A X =>
  simp only[comp] at F;cases hl:jY P t with
  |none=>rw[hl] at F;cases F
  | some k =>
   rw[hl] at F;obtain rfl:=d9 F;obtain⟨h9,I⟩:=I
   have:=aJL H (A:=A) (X:=X) hl (K:=λh'=>∃l,aA l=h'∧K ⟨σ.s,l⟩) (by
     simp only[wrS,St.f];split at I
     . rename_i n e c hA
       rw[hA];split at I
       . rename_i b cs hb h8
         simp only[hb,h8];exact⟨I.1,_,tQ _ _ _,I.2⟩
       . exact I.elim
     . exact I.elim)
   obtain⟨h',w',⟨l,rfl,hK⟩,hh,he⟩:=this;unfold Oper.wp;have hr:(execOp a.eval o).run P w=.ok .skip w':=by simp[execOp,J,hh]
   rw[hr];simp only[Oper.upon,h9,Act.put];exact⟨⟨σ.s,l⟩,S,ρ,κ,hK,he⟩
 case nilCheck x =>
  obtain rfl:=d9 F;exact wF H O (aL6 H J I)
 case binOp op t x y yt =>
  simp only[comp] at F;split at F
  .simp only[Ad] at F;obtain rfl:=d9 (Cj some F);exact bR H O (by simp only[execOp,J]) (aNC (t:=t) H I)
  .simp only[Ad] at F;obtain rfl:=d9 (Cj some F);exact bR H O (by simp only[execOp,J]) (aMc (t:=t) H I)
  .rename_i U;obtain rfl:=d9 F;exact bR H O (by simp only[execOp,J]) (aMd H U I)
  .rename_i U;split at F
   .rename_i ks h5;split at F
    .rename_i hm;split at F
     .simp only[Ad] at F;obtain rfl:=d9 (Cj some F);exact bR H O (by simp only[execOp,J]) (aKw H (.inl ⟨rfl,rfl⟩) h5 hm.1 hm.2 I)
     .simp only[Ad] at F;obtain rfl:=d9 (Cj some F);exact bR H O (by simp only[execOp,J]) (aKw H (.inr ⟨rfl,rfl⟩) h5 hm.1 hm.2 I)
     .cases F
    .cases F
   .cases F
  .cases F
 case unOp op t x =>
  obtain rfl:=d9 F;exact bR H O (by simp only[execOp,J]) (rd_un H I)
 case convert s d x =>
  simp only[comp] at F;split at F
  .rename_i h1 h2;obtain rfl:=d9 F;exact bR H O (by simp only[execOp,J]) (aMb H h1 h2 I)
  .rename_i e h1 h2;split at F
   .rename_i h3;obtain rfl:=d9 F;exact bR H O (by simp only[execOp,J]) (aND H h1 h3 h2 I)
   .cases F
  .cases F
 case makeFunc fn first caps =>
  cases fn
  case func g =>
   simp only[comp] at F;split at F
   .rename_i qe;obtain rfl:=d9 F;have qa:first=#[]:=Array.eq_empty_of_size_eq_zero qe
    have:=aL7 (P:=P) (w:=w) (K:=λv=>K ⟨put o.dst v σ.s,σ.h⟩) H I;refine bR H O (s:=Instr.makeFunc (.func g) #[] (caps.map a.eval)) (by simp only[execOp,J,qa,CU,BX]) ?_;simpa using this
   .cases F
  all_goals simp[comp] at F
 case makeSlice t l c =>
  simp only[comp] at F;split at F
  .rename_i qc;obtain rfl:=aKm qc;split at F
   .rename_i e U;split at F
    .rename_i i hi;split at F
     .rename_i z hz;obtain rfl:=d9 F;simp only[bP] at I;split at I
      .rename_i d L;exact yT L (O d L) (by simp only[execOp,J]) (al_mk H U hi hz I)
      .exact I.elim
     .cases F
    .cases F
   .cases F
  .cases F
 case slice t x lo hi mx =>
  cases mx
  case none =>
   simp only[comp] at F;split at F
   .rename_i e U;cases hk:jY P e with
    |none=>rw[hk] at F;cases F
    | some k =>
     rw[hk] at F;obtain rfl:=d9 F;exact bR H O (by simp only[execOp,J];rfl) (aNA H U hk I)
   .rename_i U;obtain rfl:=d9 F;exact bR H O (by simp only[execOp,J];rfl) (aL5 H U I)
   .cases F
  case some=>simp[comp] at F
 case fieldAddr s x i =>
  simp only[comp] at F;split at F
  .rename_i f hf;split at F
   .rename_i n hn;obtain rfl:=d9 F;exact bR H O (by simp only[execOp,J]) (aEO H hf hn (by omega) I)
   .cases F
  .cases F
 case field s x i =>
  simp only[comp] at F;split at F
  .rename_i f hf;cases hl:wK P f.type with
   |none=>rw[hl] at F;cases F
   | some p =>
    obtain⟨g,n⟩:=p;rw[hl] at F;simp only[CQ] at F;split at F
    .rename_i hs;obtain rfl:=d9 F;have hg:=aFW hl;exact bR H O (by simp only[execOp,J]) (aKv H hf hs hg (λh=>aAS (h ▸ hl)) I)
    .cases F
  .cases F
 case indexAddr t x i =>
  simp only[comp] at F;split at F
  .rename_i e U;cases hk:jY P e with
   |none=>rw[hk] at F;cases F
   | some k =>
    rw[hk] at F;obtain rfl:=d9 F;exact bR H O (by simp only[execOp,J]) (aKu H U hk I)
  .rename_i n e U;cases hk:jY P e with
   |none=>rw[hk] at F;cases F
   | some k =>
    rw[hk] at F;obtain rfl:=d9 F;exact bR H O (by simp only[execOp,J]) (aI3 H U hk I)
  .cases F
 case index t x i =>
  simp only[comp] at F;split at F
  .rename_i U;obtain rfl:=d9 F;exact bR H O (by simp only[execOp,J]) (aI2 H U I)
  .rename_i n e U;cases hl:wK P e with
   |none=>rw[hl] at F;cases F
   | some p =>
    obtain⟨g,k⟩:=p;rw[hl] at F;simp only[CQ] at F;split at F
    .rename_i hs;obtain rfl:=d9 F;have hg:=aFW hl;exact bR H O (by simp only[execOp,J]) (aI4 H U hs hg (λh=>aAS (h ▸ hl)) I)
    .cases F
  .cases F
 case extract x i =>
  obtain rfl:=d9 F;exact bR H O (by simp only[execOp,J]) (aGY H I)
 case call c =>
  simp only[comp] at F;split at F
  .rename_i b Y;have hb:=aFB (a:=a) J Y;unfold uD at F;split at F
   .rename_i t x Z ha;have e1:=arr1 Z;have e2:=arr1 ha;split at F
    .rename_i e U;obtain rfl:=d9 F;exact bR H O (s:=Builtin.len_ #[t] o.type #[a.eval x]) (by rw[hb,e1,e2];simp only[builtin,CU,BD,BX]) (aNB H U I)
    .rename_i U;obtain rfl:=d9 F;exact bR H O (s:=Builtin.len_ #[t] o.type #[a.eval x]) (by rw[hb,e1,e2];simp only[builtin,CU,BD,BX]) (aL8 H U I)
    .rename_i n e U;obtain rfl:=d9 F;exact bR H O (s:=Builtin.len_ #[t] o.type #[a.eval x]) (by rw[hb,e1,e2];simp only[builtin,CU,BD,BX]) (aL9 _ U I)
    .cases F
   .rename_i t t2 A X Z ha;have e1:=aHz Z;have e2:=aHz ha;split at F
    .rename_i e qi U qf;split at F
     .rename_i i hi;split at F
      .rename_i z hz;split at F
       .rename_i qh;obtain rfl:=d9 F;simp only[bP] at I;split at I
        .rename_i d L;split at I
         .rename_i on l l' hw qd;obtain⟨⟨hf,h1,h2⟩,hK⟩:=I
          have ho:=aIN (P:=P) (ty:=o.type) H (K:=fun σ' x=>∃σl:St,σl.f=σ'∧K ⟨(d,x)::σl.s,σl.h⟩) U qf hi hz qh (A:=A) (X:=X) (d:=.t d 0) (λqj l2 hj=>by
            simp only[St.f] at hj;rw[hw] at hj;simp only[Ad,AL] at hj;obtain⟨rfl,rfl⟩:=hj;have:=dP hf;rw[aF1] at this;exact this) (by
            simp only[wrA,St.f,hw,qd];refine⟨⟨h1,h2⟩,⟨(aQ on σ).s,(.t d 0,.arr i.size (l++l') false)::(aQ on σ).h⟩,?_,hK⟩;have h4:=aF1 on σ;have k1:look (aQ on σ).s=(aBN on ⟨look σ.s,aA σ.h⟩).s:=Cj FSt.s h4;have k2:aA (aQ on σ).h=(aBN on ⟨look σ.s,aA σ.h⟩).h:=Cj FSt.h h4;simp only[FSt.mk.injEq];refine⟨k1,?_⟩
            funext m
            simp only[aA,hput,←k2])
          obtain⟨σ',x,v,w',ρ',κ',⟨σl,rfl,h6⟩,hh,he,hx⟩:=ho;unfold Oper.wp
          have hr:(execOp a.eval o).run P w=.ok (.value v) w':=by
           rw[hb,e1,e2];simp only[builtin,CU,BD,BX];exact aHZ hh
          rw[hr];simp only[Oper.upon,L];exact cK.put he hx (d:=some d) (λd' h=>by rw[←Ay h];exact O d L) h6
         .exact I.elim
        .exact I.elim
       .cases F
      .cases F
     .cases F
    .cases F
   .rename_i t t2 x y Z ha;have e1:=aHz Z;have e2:=aHz ha;obtain rfl:=d9 F;exact bR H O (s:=Builtin.max_ #[t,t2] o.type #[a.eval x,a.eval y]) (by rw[hb,e1,e2];simp only[builtin,CU,BD,BX]) (aM9 (mx:=true) (t:=#[t,t2]) (T:=o.type) H I)
   .rename_i t t2 x y Z ha;have e1:=aHz Z;have e2:=aHz ha;obtain rfl:=d9 F;exact bR H O (s:=Builtin.min_ #[t,t2] o.type #[a.eval x,a.eval y]) (by rw[hb,e1,e2];simp only[builtin,CU,BD,BX]) (aM9 (mx:=false) (t:=#[t,t2]) (T:=o.type) H I)
   .rename_i t x Z ha;have e1:=arr1 Z;have e2:=arr1 ha;split at F
    .rename_i e U;split at F
     .rename_i i hi;split at F
      .rename_i z hz;obtain rfl:=d9 F
       have ho:=aNo (P:=P) (ty:=o.type) H U hi hz (X:=x) (K:=λh'=>∃l,aA l=h'∧K ⟨Vs.put o.dst (.v (.tuple #[])) σ.s,l⟩) (by
         simp only[wrC,St.f];simp only[bP] at I;split at I
         . rename_i n off len hA
           rw[hA];split at I
           . rename_i k' l fz h7
             simp only[h7];exact⟨I.1,_,tQ _ _ _,I.2⟩
           . exact I.elim
         . exact I.elim)
       obtain⟨h',w',⟨l,rfl,hK⟩,hh,he⟩:=ho;unfold Oper.wp
       have hr:(execOp a.eval o).run P w=.ok (.value (.tuple #[])) w':=by
        rw[hb,e1,e2];simp only[builtin,CU,BD,BX];exact aHZ hh
       rw[hr];exact cK.put (σ:=⟨σ.s,l⟩) he (.clo (.v _)) O hK
      .cases F
     .cases F
    .cases F
   .cases F
  .rename_i f Y;split at F
   .rename_i qb;split at F
    .rename_i x y qg;simp only[Ad] at F;rcases bare_eq F.symm with⟨f',args,bor,rfl,h⟩|⟨_,rfl⟩
     .cases h
     .exact wF H O (aMa H J Y (aHz qg) qb I)
    .cases F
   .simp only[Ad] at F;rcases bare_eq F.symm with⟨f',args,bor,rfl,h⟩|⟨hn,h⟩
    .simp only[AOp.call.injEq] at h;obtain⟨rfl,rfl,_⟩:=h;exact aDQ H O J Y I
    .exact absurd h (hn _ _ _)
  .rename_i f _ Y;simp only[Ad] at F;rcases bare_eq F.symm with⟨f',args,bor,rfl,h⟩|⟨hn,h⟩
   .simp only[AOp.call.injEq] at h;obtain⟨rfl,rfl,_⟩:=h;exact aDQ H O J Y I
   .exact absurd h (hn _ _ _)
  .cases F
 all_goals simp[comp] at F
theorem OK.close {σ:FSt} (F:OK C σ a w S ρ κ) {n:Name}{k d:Nat}{rows:List (List AV)}{z:Bool} (U:σ.h n=some (.arr k rows z)) (hd:σ.s d=.loc n 0 rows.length) :
  OK C ⟨upd σ.s (some d) (.sl k rows),λm=>if m=n then none else σ.h m⟩ a w (λb=>S b∨ρ n=some b) ρ κ:=by
 have O:∀b,S b->S b∨ρ n=some b:=λb h=>.inl h
 have hn:∀m,eO ρ ρ κ κ σ.h (λm=>if m=n then none else σ.h m) m:=by
  intro m J H;simp only at H;split at H
  .cases H
  .exact⟨rfl,rfl,J,H,J.same_refl⟩
 have I:∀m,((λm=>if m=n then none else σ.h m) m).isSome->m≠n∧(σ.h m).isSome:=by
  intro m L;simp only at L;split at L
  .cases L
  .exact⟨by assumption,L⟩
 have hv:=F.slots d;rw[hd] at hv
 have hc:=(lJ F.hok O (E:=[]) (ρ':=ρ) (κ':=κ) (h':=σ.h) (by simp) 8 true (.loc n 0 rows.length) (.sl k ((rows.drop 0).take rows.length)) [n] _ (by simp[conv,lH,U])
   (λm L y hy=>by rw[Au.1 L] at hy;exact .inr hy) hv).2.1 rfl
 rw[Cn,Bv] at hc
 refine ⟨F.nt,F.defers,λt=>?_,⟨λm J H=>?_,λm Y y Z h2 h3 h4=>F.hok.inj m Y y (I m Z).2 (I Y h2).2 h3 h4,λb H=>?_,F.hok.env.mono O λ_ _=>rfl⟩,F.size,F.old,
   λm y Z h2=>F.mine m y (I m Z).2 h2,λb h=>.inl (F.S0 b h),λb h=>?_,F.out,λj J H=>?_⟩
 .simp only[upd];split
  .subst_vars;exact .clo hc
  .exact(F.slots t).mono O (λ_ _=>rfl) λm _=>hn m
 .simp only at H;split at H
  .cases H
  .rename_i ha;refine(F.hok.blk m J H).mono O (λx hx h=>?_) (λ_ _=>rfl) (λ_ _=>rfl) rfl rfl λY _=>hn Y;rcases h with h|h
   .exact h
   .exact absurd (F.hok.inj m n x (by simp[H]) (by simp[U]) hx h) ha
 .rcases H with h|h
  .exact F.hok.dom b h
  .exact F.hok.lt (n:=n) (by simp[U]) h
 .rcases h with h|h
  .exact F.Snew b h
  .exact .inr (F.mine n b (by simp[U]) h)
 .simp only at H;split at H
  .cases H
  .exact F.keep j J H
theorem aDi {σ:St}{K:St->Prop}{n:Name}{k d:Nat}{rows:List (List AV)}{z:Bool}{s:List (Nat×AV)}{h:List (Name×Blk)} (L:σ=⟨(d,.loc n 0 rows.length)::s,(n,.arr k rows z)::h⟩) (J:aA h n=none)
  (I:K ⟨(d,.sl k rows)::s,h⟩) (F:OK C σ.f a w S ρ κ):cK C K a w:=by
 subst L;have:=F.close (n:=n) (k:=k) (d:=d) (rows:=rows) (z:=z) (by simp[St.f,aA]) (by simp[St.f,look]);refine⟨⟨(d,.sl k rows)::s,h⟩,λb=>S b∨ρ n=some b,ρ,κ,I,?_⟩
 have H:(⟨upd (St.f ⟨(d,.loc n 0 rows.length)::s,(n,.arr k rows z)::h⟩).s (some d) (.sl k rows),λm=>if m=n then none else(St.f ⟨(d,.loc n 0 rows.length)::s,(n,.arr k rows z)::h⟩).h m⟩:FSt)=(⟨(d,.sl k rows)::s,h⟩:St).f:=by
  simp only[St.f,FSt.mk.injEq];refine⟨funext λt=>?_,funext λm=>?_⟩
  .simp only[upd,look];split<;>rfl
  .simp only[aA];split
   .subst_vars;exact J.symm
   .rfl
 rw[H] at this;exact this
theorem yF {n:Name}{σ:St} (h:bT n σ=true):aA σ.h n=none:=(dP h).1.1
theorem wE {σ:St}{K:St->Prop}{o:Oper}{op:AOp}{Q:Exit->Act->World->Prop} (L:comp P o.op=some op.bare) (I:OK C σ.f a w S ρ κ) (Z:∀d',o.dst=some d'->d'<C.nt)
  (H:bP P o.dst σ K op):o.wp P a w (cK C K) Q:=by
 by_cases U:∃k y A X,op=.appendC k y A X
 .obtain⟨k,y,A,X,rfl⟩:=U;cases hds:o.dst with
  |none=>rw[hds] at H;exact H.elim
  | some d =>
   simp only[bP,hds] at H;split at H
   .rename_i on l l' hA hX;obtain⟨⟨hf,ha⟩,Y⟩:=H
    refine Oper.wp_mono (λa' w' ⟨σ',S',ρ',κ',hσ,hok'⟩=>?_) (pY (P:=P) (op:=.append k y A X) (K:=fun σ'=>σ'=⟨(d,.loc (.t d 0) 0 (l.length+l'.length))::(aQ on σ).s,(.t d 0,.arr k (l++l') false)::(aQ on σ).h⟩) L I Z (by
      simp only[bP,hds,hA,hX];exact⟨⟨hf,ha⟩,trivial⟩))
    exact aDi (by rw[hσ,AQ]) (yF hf) Y hok'
   .exact H.elim
 .by_cases h2:∃k m z O,op=.bsliceC k m z O
  .obtain⟨k,m,z,O,rfl⟩:=h2;cases hds:o.dst with
   |none=>rw[hds] at H;exact H.elim
   | some d =>
    simp only[bP,hds] at H
    refine Oper.wp_mono (λa' w' ⟨σ',S',ρ',κ',⟨rows,hσ,hf,Y⟩,hok'⟩=>?_) (pY (P:=P) (op:=.bslice k m z O) (K:=fun σ'=>∃rows,σ'=⟨(d,.loc (.t d 0) 0 rows.length)::σ.s,(.t d 0,.arr k rows false)::σ.h⟩∧bT (.t d 0) σ=true∧K ⟨(d,.sl k rows)::σ.s,σ.h⟩) L I Z (by
      simp only[bP,hds]
      have:∀{K1 K2:AV->Blk->Prop}{op:AOp},(∀v b,K1 v b->K2 v b)->al (evO (look σ.s)) (aA σ.h) (.t d 0) K1 op->al (evO (look σ.s)) (aA σ.h) (.t d 0) K2 op:=by
        intro K1 K2 op J F
        have lay:∀(O:List (Nat×Nat×Operand)) (cs:List AV) {L1 L2:List AV->Prop},(∀c,L1 c->L2 c)->layAll (evO (look σ.s)) (aA σ.h) cs O L1->layAll (evO (look σ.s)) (aA σ.h) cs O L2:=by
          intro O
          induction O with
          |nil=>intro cs L1 L2 hh F;exact hh _ F
          | cons p r ih =>
            intro cs L1 L2 hh F;obtain⟨o,n,x⟩:=p;simp only[layAll] at F⊢;split at F
            . exact⟨F.1,ih _ hh F.2⟩
            . exact F
        cases op<;>simp only[al] at F⊢<;> try exact F
        . split at F
          . exact J _ _ F
          . exact F
        . exact⟨F.1,J _ _ F.2⟩
        . exact⟨F.1,lay _ _ (λc L=>⟨L.1,J _ _ L.2⟩) F.2⟩
        . split at F
          . exact⟨F.1,J _ _ F.2⟩
          . exact F
      refine this (λv b hb=>?_) H;obtain⟨U,rows,rfl,rfl,Y⟩:=hb;exact⟨U,rows,rfl,U.1,Y⟩))
    exact aDi hσ (yF hf) Y hok'
  .by_cases h3:∃g k A,op=.loadV g k A
   .obtain⟨g,k,A,rfl⟩:=h3;exact pY (op:=.load g k A) L I Z (by simp only[bP] at H⊢;exact aKt H)
   .by_cases h4:∃f A,op=.fieldV f A
    .obtain⟨f,A,rfl⟩:=h4;exact pY (op:=.fieldAddr f A) L I Z (by simp only[bP] at H⊢;exact aI5 H)
    .have e:op.bare=op.bare0:=by
      cases op<;>first
       |rfl
       |exact absurd ⟨_,_,_,_,rfl⟩ U
       |exact absurd ⟨_,_,_,_,rfl⟩ h2
       |exact absurd ⟨_,_,_,rfl⟩ h3
       |exact absurd ⟨_,_,rfl⟩ h4
     exact pY (by rw[L,e]) I Z H
def aAp (t:Nat) (σ:St) (N:St->Prop):Prop:=match look σ.s t with
 | .loc n lo m=>match aA σ.h n with
  |some (.arr k rows _)=>(lo=0∧m=rows.length)∧N ⟨(t,.sl k rows)::(bW n σ).s,(bW n σ).h⟩
  |_=>False
 |_=>N σ
theorem aBV {σ:St}{N:St->Prop}{t:Nat} (F:aAp t σ N) (H:OK C σ.f a w S ρ κ):cK C N a w:=by
 unfold aAp at F;split at F
 .rename_i n lo m Y;split at F
  .rename_i k rows z U;obtain⟨⟨rfl,rfl⟩,O⟩:=F;have J:=(H.close (n:=n) (k:=k) (d:=t) (rows:=rows) (z:=z) U Y).kill n;refine⟨_,λb=>S b∨ρ n=some b,ρ,κ,O,?_⟩
   have L:oF n ⟨upd σ.f.s (some t) (.sl k rows),λm=>if m=n then none else σ.f.h m⟩=(⟨(t,.sl k rows)::(bW n σ).s,(bW n σ).h⟩:St).f:=by
    simp only[oF,St.f,FSt.mk.injEq];refine⟨funext λu=>?_,funext λm=>?_⟩
    .simp only[upd,look];by_cases I:u=t
     .subst I;simp[scr,AV.has]
     .rw[AB I,AB I];exact(nP (scr n) (by simp[scr,AV.has]) _ u).symm
    .simp only[bW,tO];split<;>simp
   rw[L] at J;exact J
  .exact F.elim
 .exact⟨σ,S,ρ,κ,F,H⟩
/-! ## another name for a block -/
def nmF (n m:Name) (x:Name):Option Name:=if x=n then some m else if x=m then none else some x
theorem OK.rename {σ:FSt} (F:OK C σ a w S ρ κ) {n m:Name} (hf:n≠m) (hm:σ.h m=none) (hc:∀j,m≠.b j) :
  ∃ρ' κ',OK C ⟨λt=>rn (nmF n m) (σ.s t),λx=>if x=m then(σ.h n).map (rnB (nmF n m)) else if x=n then none else(σ.h x).map (rnB (nmF n m))⟩ a w S ρ' κ':=by
 let ρ':Name->Option Nat:=λx=>if x=m then ρ n else ρ x
 let κ':Name->Nat:=λx=>if x=m then κ n else κ x
 let h':Name->Option Blk:=λx=>if x=m then(σ.h n).map (rnB (nmF n m)) else if x=n then none else(σ.h x).map (rnB (nmF n m))
 have back:∀x O,h' x=some O->∃y b,σ.h y=some b∧O=rnB (nmF n m) b∧ρ' x=ρ y∧κ' x=κ y∧((x=m∧y=n)∨(x=y∧x≠m∧x≠n)):=by
  intro x O I;simp only[h'] at I;split at I
  .rename_i H;obtain⟨b,U,h2⟩:=Cq.1 I;exact⟨n,b,U,h2.symm,by simp[ρ',H],by simp[κ',H],.inl ⟨H,rfl⟩⟩
  .rename_i H;split at I
   .cases I
   .rename_i Y;obtain⟨b,U,h2⟩:=Cq.1 I;exact⟨x,b,U,h2.symm,by simp[ρ',H],by simp[κ',H],.inr ⟨rfl,H,Y⟩⟩
 have hφ:∀x y,nmF n m x=some y->ρ' y=ρ x∧κ' y=κ x∧∀O,h' y=some O->∃b,σ.h x=some b∧b.same O:=by
  intro x y L
  have hy:ρ' y=ρ x∧κ' y=κ x∧(h' y=(σ.h x).map (rnB (nmF n m))):=by
   simp only[nmF] at L;split at L
   .rename_i H;obtain rfl:=Ay L;exact⟨by simp[ρ',H],by simp[κ',H],by simp[h',H]⟩
   .rename_i H;split at L
    .cases L
    .rename_i Y;obtain rfl:=Ay L;exact⟨by simp[ρ',Y],by simp[κ',Y],by simp[h',H,Y]⟩
  refine⟨hy.1,hy.2.1,λO I=>?_⟩;rw[hy.2.2] at I;obtain⟨b,U,rfl⟩:=Cq.1 I;exact⟨b,U,aAJ _ _⟩
 have J:∀x,(h' x).isSome->∃y,(σ.h y).isSome∧ρ' x=ρ y∧((x=m∧y=n)∨(x=y∧x≠m∧x≠n)):=by
  intro x H;obtain⟨O,I⟩:=AA.1 H;obtain⟨y,b,U,_,h2,_,h3⟩:=back x O I;exact⟨y,by simp[U],h2,h3⟩
 refine⟨ρ',κ',F.nt,F.defers,λt=>(F.slots t).ren hφ,⟨λx O I=>?_,λx y z H hy hd he=>?_,F.hok.dom,F.hok.env⟩,F.size,F.old,λx z H hz=>?_,F.S0,F.Snew,F.out,λj b I=>?_⟩
 .obtain⟨y,b,U,rfl,h2,h3,_⟩:=back x O I;have ha:=F.hok.blk y b U;cases b with
  | var c z =>
   obtain⟨u,cs,T,fr,g1,g2,g3,g4,Z,g5,g6,g7⟩:=ha;refine⟨u,cs,T,fr,by rw[h2];exact g1,g2,g3,g4,Z,by rw[h3];exact g5,by rw[dN];exact g6,λj hj=>?_⟩;rw[dN] at hj;rw[nM _ _ _ hj];exact⟨(g7 j hj).1,(g7 j hj).2.ren hφ⟩
  | arr k l z =>
   obtain⟨g0,g⟩:=ha;refine⟨g0,?_⟩;rcases g with⟨g1,g2⟩|⟨u,cs,T,fr,g1,g2,g3,g4,Z,g5,g6,g7⟩
   .exact .inl ⟨by rw[h2];exact g1,g2⟩
   .exact .inr ⟨u,cs,T,fr,by rw[h2];exact g1,g2,g3,g4,Z,by rw[h3];exact g5,g6,g7⟩
 .obtain⟨x2,q1,q2,q3⟩:=J x H;obtain⟨y2,r1,r2,r3⟩:=J y hy;have e:=F.hok.inj x2 y2 z q1 r1 (by rw[←q2];exact hd) (by rw[←r2];exact he);rcases q3 with⟨rfl,rfl⟩|⟨rfl,q4,q5⟩<;>rcases r3 with⟨rfl,rfl⟩|⟨rfl,r4,r5⟩
  .rfl
  .exact absurd e.symm r5
  .exact absurd e q5
  .exact e
 .obtain⟨y,q1,q2,_⟩:=J x H;exact F.mine y z q1 (by rw[←q2];exact hz)
 .obtain⟨y,b0,U,rfl,h2,h3,h4⟩:=back _ b I;rcases h4 with⟨h4,_⟩|⟨rfl,_,_⟩
  .exact absurd h4.symm (hc j)
  .obtain⟨k1,k2,b1,k3,k4⟩:=F.keep j b0 U;refine⟨by rw[h2];exact k1,by rw[h3];exact k2,b1,k3,?_⟩;have:=aAJ (nmF n m) b0;revert k4 this;cases b1<;>cases b0<;>simp[Blk.same,rnB]<;>omega
def nN (n m:Name) (σ:St):St:=⟨σ.s.map λp=>(p.1,rn (nmF n m) p.2),σ.h.map λp=>(if p.1=n then m else p.1,rnB (nmF n m) p.2)⟩
theorem aBv {n m:Name}:∀(l:List (Name×Blk)) (x:Name),aA l m=none->aA (l.map λp=>(if p.1=n then m else p.1,rnB (nmF n m) p.2)) x =
  if x=m then(aA l n).map (rnB (nmF n m)) else if x=n then none else(aA l x).map (rnB (nmF n m))
 | [],x,_=>by simp[aA]
 | (i,b)::r,x,h=>by
  simp only[aA] at h;have hi:¬m=i:=λe=>by rw[AP e] at h;cases h
  rw[AB hi] at h;have I:=aBv (n:=n) r x h;simp only[BD,aA];by_cases hin:i=n
  .subst hin;by_cases H:x=m
   .subst H;simp
   .by_cases F:x=i
    .subst F;rw[AP rfl,AB H,I,AB H];simp[H]
    .rw[AP rfl,AB H,I,AB H,AB F,AB H,AB F,AB F]
  .rw[AB hin];by_cases H:x=m
   .subst H;rw[AB hi,I,AP rfl,AP rfl,AB (λe=>hin e.symm)]
   .by_cases F:x=i
    .subst F;rw[AP rfl,AB H,AB hin,AP rfl];rfl
    .rw[AB F,I,AB H,AB H,AB F]
def aIb (t:Nat) (σ:St) (N:St->Prop):Prop:=match look σ.s t with
 | .loc n _ _=>if n=.t t 0 then N σ else match aA σ.h (.t t 0) with
  |none=>bT (.t t 0) σ=true∧N (nN n (.t t 0) σ)
  |some _=>bT (.t t 0) (bW (.t t 0) σ)=true∧N (nN n (.t t 0) (bW (.t t 0) σ))
 |_=>N σ
theorem aD0 {σ:St}{N:St->Prop}{t:Nat}{n:Name} (O:n≠.t t 0) (L:bT (.t t 0) σ=true) (J:N (nN n (.t t 0) σ)) (H:OK C σ.f a w S ρ κ):cK C N a w:=by
 have F:=dP L;obtain⟨ρ',κ',I⟩:=H.rename (n:=n) (m:=.t t 0) O F.1.1 (λj=>by simp);refine⟨_,S,ρ',κ',J,?_⟩
 have e:(⟨λu=>rn (nmF n (.t t 0)) (σ.f.s u),λx=>if x=.t t 0 then(σ.f.h n).map (rnB (nmF n (.t t 0))) else if x=n then none else(σ.f.h x).map (rnB (nmF n (.t t 0)))⟩:FSt)=(nN n (.t t 0) σ).f:=by
  simp only[St.f,nN,FSt.mk.injEq];refine⟨funext λu=>(nP _ (by simp[rn]) _ u).symm,funext λx=>(aBv _ x F.1.1).symm⟩
 rw[e] at I;exact I
theorem aG1 {σ:St}{N:St->Prop}{t:Nat} (F:aIb t σ N) (H:OK C σ.f a w S ρ κ):cK C N a w:=by
 unfold aIb at F;split at F
 .rename_i n lo m L;split at F
  .exact⟨σ,S,ρ,κ,F,H⟩
  .rename_i J;split at F
   .exact aD0 J F.1 F.2 H
   .have I:=H.kill (.t t 0);rw[←pV] at I;exact aD0 J F.1 F.2 I
 .exact⟨σ,S,ρ,κ,F,H⟩
end
section
variable [Envs]
variable {P:Program}{C:Ctx}{a:Act}{w:World}{S:Nat->Prop}{ρ:Name->Option Nat}{κ:Name->Nat}
def vc (P:Program) (K:St->Prop):List aI->St->Prop
 | [],σ=>K σ
 | o::r,σ=>match o.guard with
  |none=>bP P o.dst σ (vc P K r) o.op
  | some (g,want)=>match look σ.s g with
   |.v (.bool b)=>BrW b want (bP P o.dst σ (vc P K r) o.op) (vc P K r ⟨put o.dst (.v (.tuple #[])) σ.s,σ.h⟩)
   |.v (.tuple _)=>vc P K r ⟨put o.dst (.v (.tuple #[])) σ.s,σ.h⟩
   |_=>False
def aI.bare (o:aI):aI:={o with op:=o.op.bare}
def nG (P:Program) (nt:Nat) (ops:Array Oper) (o:Oper):Option aI:=
 match comp P o.op with
 |none=>none
 | some op=>if o.dst.all (λd=>decide (d<nt)) then
   match o.guard with
   |none=>some ⟨o.dst,op,none⟩
   | some (j,want)=>match(ops[j]?).bind (·.dst) with
    |some t=>some ⟨o.dst,op,some (t,want)⟩
    |none=>none
  else none
theorem iI {nt:Nat}{ops:Array Oper}{o:Oper}{ao:aI} (h:nG P nt ops o=some ao.bare):comp P o.op=some ao.op.bare∧o.dst=ao.dst∧(∀d,o.dst=some d->d<nt)∧
  ((o.guard=none∧ao.guard=none)∨∃j F t,o.guard=some (j,F)∧ao.guard=some (t,F)∧(ops[j]?).bind (·.dst)=some t):=by
 grind [nG,aI.bare]
theorem yO {σ:St}{ops:Array Oper}{o:Oper}{j t:Nat}{F b:Bool} (H:OK C σ.f a w S ρ κ) (L:o.guard=some (j,F)) (U:(ops[j]?).bind (·.dst)=some t) (O:look σ.s t=.v (.bool b)) :
  Region.wanted o (yielded ops a.tmps)=(b==F):=by
 have I:=H.slots t;simp only[St.f] at I;rw[O] at I;have J:=bE I
 have:a.tmps[t]? = some (.bool b):=by
  cases hx:a.tmps[t]? with
  | none =>
   grind [undef]
  | some u =>
   have:a.tmps.getD t undef=u:=by simp[hx]
   rw[this] at J;rw[J]
 simp[Region.wanted,L,yielded,U,this]
theorem yN {σ:St}{ops:Array Oper}{o:Oper}{j t:Nat}{F:Bool}{cs:Array Value} (H:OK C σ.f a w S ρ κ) (J:o.guard=some (j,F)) (O:(ops[j]?).bind (·.dst)=some t) (L:look σ.s t=.v (.tuple cs)) :
  Region.wanted o (yielded ops a.tmps)=false:=by
 have I:=H.slots t;simp only[St.f] at I;rw[L] at I;have U:=bE I;cases hx:a.tmps[t]? with
 |none=>simp[Region.wanted,J,yielded,O,hx]
 | some u =>
  have:a.tmps.getD t undef=u:=by simp[hx]
  all_goals grind [Region.wanted,yielded]
theorem aDV {ops:Array Oper}{Q:Exit->Act->World->Prop}{K:St->Prop} (hQ:∀a w,cK C K a w->Q .normal a w):∀(H:List aI) (k:Nat),(∀j ao,H[j]? = some ao->∃o,ops[k+j]? = some o∧nG P C.nt ops o=some ao.bare)->
  ∀(σ:St) (a:Act) (w:World) (S:Nat->Prop) (ρ:Name->Option Nat) (κ:Name->Nat),vc P K H σ->OK C σ.f a w S ρ κ->wpOps P ops Q (List.range' k H.length) a w
 | [],k,_,σ,a,w,S,ρ,κ,hv,hok=>hQ a w ⟨σ,S,ρ,κ,hv,hok⟩
 | ao::r,k,hs,σ,a,w,S,ρ,κ,hv,hok=>by
  obtain⟨o,ho,hc⟩:=hs 0 ao (by simp);simp only[Ct] at ho;obtain⟨h1,h2,U,h4⟩:=iI hc;rw[Ab,List.range'_succ,wpOps_cons]
  have ih:=aDV hQ r (k+1) (λj O hj=>by
    obtain⟨o',J,L⟩:=hs (j+1) O (by simpa using hj);exact⟨o',by rw[show k+1+j=k+(j+1) by omega];exact J,L⟩)
  have go:bP P ao.dst σ (vc P K r) ao.op->o.wp P a w (wpOps P ops Q (List.range' (k+1) r.length)) Q:=λZ =>
   Oper.wp_mono (λa' w' ⟨σ',S',ρ',κ',hK,hok'⟩=>ih σ' a' w' S' ρ' κ' hK hok') (wE (P:=P) h1 hok U (by rw[h2];exact Z))
  unfold wpOp;rw[ho];simp only[vc] at hv;rcases h4 with⟨J,L⟩|⟨j,F,t,J,L,g3⟩
  .grind [Region.wanted]
  .rw[L] at hv;simp only at hv;split at hv
   .rename_i b Y;have hw:=yO hok J g3 Y;simp only[hw];by_cases I:b=F
    .simp only[I,beq_self_eq_true,Bj];exact .inl (go ((lK.1 hv).1 I))
    .have:(b==F)=false:=by simpa using I
     simp only[this,AR,Bd];have hn:b = !F:=by cases b<;>cases F<;>simp_all
     refine ih _ _ _ S ρ κ ((lK.1 hv).2 hn) ?_;have:=hok.put (x:=.v undef) (v:=undef) (.clo (.v _)) U
     all_goals grind [St.f,kE,undef]
   .rename_i cs Y;have hw:=yN hok J g3 Y;simp only[hw,AR,Bd];refine ih _ _ _ S ρ κ hv ?_;have:=hok.put (x:=.v undef) (v:=undef) (.clo (.v _)) U
    all_goals grind [St.f,kE,undef]
   .exact hv.elim
/-! ## code -/
inductive rD where
 |ret
 |exit (i:Nat)
inductive aD where
 |skip
 |region (ops:List aI) (out:List Nat) (fl:List Nat)
 |seq (x y:aD)
 |cond (c:Operand) (x y:aD)
 |block (id:Nat) (c:aD)
 |loop (c:aD)
 |exit (id:Nat)
 |ret
 |closing (t:Nat) (c:aD)
 |naming (t:Nat) (c:aD)
def aAU (s:List (Nat×AV)):List Nat->List (Nat×AV)
 | []=>[]
 |t::r=>(t,look s t)::aAU s r
theorem aD2 (s:List (Nat×AV)):∀(l:List Nat) (t:Nat),look (aAU s l) t=look s t∨look (aAU s l) t=.junk
 | [],t=>.inr rfl
 | i::r,t=>by
  simp only[aAU,look];split
  .subst_vars;exact .inl rfl
  .exact aD2 s r t
theorem OK.less {σ σ':FSt} (F:OK C σ a w S ρ κ) (hs:∀t,σ'.s t=σ.s t∨σ'.s t=.junk) (J:∀n b,σ'.h n=some b->σ.h n=some b):OK C σ' a w S ρ κ:=by
 have O:∀m,eO ρ ρ κ κ σ.h σ'.h m:=λm b I=>⟨rfl,rfl,b,J m b I,b.same_refl⟩
 have H:∀m,(σ'.h m).isSome->(σ.h m).isSome:=by
  intro m hm;obtain⟨b,I⟩:=AA.1 hm;simp[J m b I]
 refine⟨F.nt,F.defers,λt=>?_,⟨λm b I=>?_,λm U y L h2 Y Z=>F.hok.inj m U y (H m L) (H U h2) Y Z,F.hok.dom,F.hok.env⟩,F.size,F.old,λm y L h2=>F.mine m y (H m L) h2,F.S0,F.Snew,F.out,λj b I=>F.keep j b (J _ _ I)⟩
 .rcases hs t with e|e
  .rw[e];exact(F.slots t).mono (λ_ h=>h) (λ_ _=>rfl) λm _=>O m
  .rw[e];exact .junk _
 .exact(F.hok.blk m b (J m b I)).mono (λ_ h=>h) (λ_ _ h=>h) (λ_ _=>rfl) (λ_ _=>rfl) rfl rfl λm _=>O m
def aA6 (P:Program) (nt:Nat) (ops:Array Oper):List Oper->Option (List aI)
 | []=>some []
 | o::r=>match nG P nt ops o,aA6 P nt ops r with
  |some x,some l=>some (x::l)
  |_,_=>none
def bI (P:Program) (nt:Nat) (drawn:Nat->Array Oper->Option (List Nat)):Code->Option aD
 |.skip=>some .skip
 | .region _ ops draw=>match(if draw then drawn nt ops else some []) with
  |some fl=>(aA6 P nt ops ops.toList).map λl=>.region l [] fl
  |none=>none
 | .seq x y=>match bI P nt drawn x,bI P nt drawn y with
  |some x,some y=>some (.seq x y)
  |_,_=>none
 | .cond c x y=>match bI P nt drawn x,bI P nt drawn y with
  |some x,some y=>some (.cond c x y)
  |_,_=>none
 |.block id x=>(bI P nt drawn x).map (.block id)
 |.loop x=>(bI P nt drawn x).map .loop
 |.exit id=>some (.exit id)
 |.ret=>some .ret
 |_=>none
def aD.bare:aD->aD
 |.region ops _ fl=>.region (ops.map aI.bare) [] fl
 |.seq x y=>.seq x.bare y.bare
 |.cond c x y=>.cond c x.bare y.bare
 |.block id x=>.block id x.bare
 |.loop x=>.loop x.bare
 |.closing _ x=>x.bare
 |.naming _ x=>x.bare
 |c=>c
theorem jQ {nt:Nat}{ops:Array Oper}:∀{l:List Oper}{r:List aI},aA6 P nt ops l=some (r.map aI.bare)->l.length=r.length∧∀(j:Nat) (ao:aI),r[j]? = some ao->∃o,l[j]? = some o∧nG P nt ops o=some ao.bare
 | [],r,h=>by
  simp only[aA6,Ad] at h;have:r=[]:=by simpa using h.symm
  subst this;simp
 | o::l,r,h=>by
  simp only[aA6] at h;split at h
  .rename_i x J I h2;cases r with
   |nil=>simp at h
   | cons ao r =>
    simp only[BD,Ad,List.cons.injEq] at h;obtain⟨rfl,rfl⟩:=h;obtain⟨F,H⟩:=jQ h2
    all_goals grind
  .cases h
def aDc (fl:List Nat) (ops:List aI) (σ:St):Bool:=
 (fl.all λd=>σ.s.all λp=>!(p.1==d))&&ops.all λo=>match o.op,o.dst with
  |.call _ _ bor,some d=>bor.isEmpty||!fl.contains d||fl.contains (d+2000000)
  |.bsliceC ..,some d=>!fl.contains d
  |.load ..,some d=>!fl.contains (d+1000000)
  |.fieldAddr ..,some d=>!fl.contains (d+1000000)
  |_,_=>true
def fV (P:Program) (drawn:Nat->Array Oper->Option (List Nat)):Prop:=
 ∀ (C:Ctx) (id:Nat) (ops:Array Oper) (aops:List aI) (fl:List Nat) (K:St->Prop) (Q:Exit->Act->World->Prop) (σ:St) (a:Act) (w:World) (S:Nat->Prop) (ρ:Name->Option Nat) (κ:Name->Nat),
  drawn C.nt ops=some fl->aA6 P C.nt ops ops.toList=some (aops.map aI.bare)->aDc fl aops σ=true->(∀a w,cK C K a w->Q .normal a w)->vc P K aops σ->OK C σ.f a w S ρ κ->(Code.region id ops true).wp P Q a w
def SemW (P:Program) (C:Ctx) (drawn:Nat->Array Oper->Option (List Nat)) (ac:aD) (N:St->Prop) (E:rD->St->Prop) (σ:St):Prop:=
 ∀ (c:Code) (Q:Exit->Act->World->Prop) (a:Act) (w:World) (S:Nat->Prop) (ρ:Name->Option Nat) (κ:Name->Nat),bI P C.nt drawn c=some ac.bare->
  (∀a w,cK C N a w->Q .normal a w)->(∀i a w,cK C (E (.exit i)) a w->Q (.exit i) a w)->(∀a w,cK C (E .ret) a w->Q .ret a w)->OK C σ.f a w S ρ κ->c.wp P Q a w
def RgK (b:Bool) (A:Prop) (_:Tag (b,A)):Prop:=b=true∧A
theorem RgK.mk {b:Bool}{A:Prop}{t:Tag (b,A)} (F:b=true) (h2:A):RgK b A t:=⟨F,h2⟩
def aM (P:Program) (C:Ctx) (drawn:Nat->Array Oper->Option (List Nat)) (c:aD) (N:St->Prop) (E:rD->St->Prop) (σ:St) (_:Tag (N,E)):Prop:=SemW P C drawn (.loop c) N E σ
def wpc (P:Program) (C:Ctx) (drawn:Nat->Array Oper->Option (List Nat)):aD->(St->Prop)->(rD->St->Prop)->St->Prop
 |.skip,N,_,σ=>N σ
 | .region ops out fl,N,_,σ=>match fl with
  | []=>vc P (fun σ'=>N ⟨aAU σ'.s out,σ'.h⟩) ops σ
  |d::r=>RgK (aDc (d::r) ops σ) (vc P (fun σ'=>N ⟨aAU σ'.s out,σ'.h⟩) ops σ) .x
 |.seq x y,N,E,σ=>wpc P C drawn x (wpc P C drawn y N E) E σ
 | .cond c x y,N,E,σ=>match evO (look σ.s) c with
  |.v (.bool b)=>Br b (wpc P C drawn x N E σ) (wpc P C drawn y N E σ) .x
  |_=>False
 | .block id x,N,E,σ=>wpc P C drawn x N (λe σ'=>match e with
   |.exit i=>(i=id->N σ')∧(i≠id->E (.exit i) σ')
   |.ret=>E .ret σ') σ
 |.loop x,N,E,σ=>aM P C drawn x N E σ .x
 |.exit id,_,E,σ=>E (.exit id) σ
 |.ret,_,E,σ=>E .ret σ
 |.closing t x,N,E,σ=>wpc P C drawn x (fun σ'=>aAp t σ' N) E σ
 |.naming t x,N,E,σ=>wpc P C drawn x (fun σ'=>aIb t σ' N) E σ
theorem uN {L:Nat->Array Oper->Option (List Nat)} (hl:fV P L):∀(ac:aD) (N:St->Prop) (E:rD->St->Prop) (σ:St),wpc P C L ac N E σ->SemW P C L ac N E σ:=by
 intro ac
 induction ac with
 | skip =>
  intro N E σ J c Q a w S ρ κ F O U Y H;cases c<;>simp[bI,aD.bare] at F
  case skip=>exact wp_skip (O a w ⟨σ,S,ρ,κ,J,H⟩)
  all_goals(first|(split at F<;>simp at F)|skip)
 | region ops out fl =>
  intro N E σ J c Q a w S ρ κ F O U Y H
  have J:aDc fl ops σ=true∧vc P (fun σ'=>N ⟨aAU σ'.s out,σ'.h⟩) ops σ:=by
   cases fl with
   | nil =>
    grind [aDc,wpc]
   |cons d r=>exact J
  have hf:∀a w,cK C (fun σ'=>N ⟨aAU σ'.s out,σ'.h⟩) a w->Q .normal a w:=by
   rintro a w ⟨σ',S',ρ',κ',hK,I⟩;exact O a w ⟨_,S',ρ',κ',hK,I.less (aD2 _ _) (λ_ _ h=>h)⟩
  cases c
  case region id cops draw =>
   simp only[bI,aD.bare] at F;split at F
   .rename_i hk hh;cases ho:aA6 P C.nt cops cops.toList with
    |none=>rw[ho] at F;cases F
    | some l =>
     rw[ho] at F;simp only[AU,Ad,aD.region.injEq,Ci] at F;obtain⟨F,rfl⟩:=F;subst F;cases draw with
     | false =>
      obtain⟨g1,g2⟩:=jQ ho;refine wp_region ?_
      have:=aDV (P:=P) hf ops 0 (λj ao hj=>by
        obtain⟨o,q1,q2⟩:=g2 j ao hj;exact⟨o,by simpa using q1,q2⟩) σ a w S ρ κ J.2 H
      all_goals grind [List.range_eq_range']
     | true =>
      grind [fV]
   .cases F
  all_goals(simp only[bI,aD.bare] at F;first|(cases F;done)|(split at F<;>simp at F)|(simp at F))
 | seq x y ihx ihy =>
  intro N E σ J c Q a w S ρ κ F O U Y H;cases c
  case seq cx cy =>
   simp only[bI,aD.bare] at F;split at F
   .rename_i x' y' h1 h2;simp only[Ad,aD.seq.injEq] at F;obtain⟨rfl,rfl⟩:=F;refine wp_seq (ihx _ _ _ J cx _ a w S ρ κ h1 (λa w Z=>?_) U Y H);obtain⟨σ',S',ρ',κ',hK,I⟩:=Z;exact ihy _ _ _ hK cy Q a w S' ρ' κ' h2 O U Y I
   .cases F
  all_goals(simp only[bI,aD.bare] at F;first|(cases F;done)|(split at F<;>simp at F)|(simp at F))
 | cond cc x y ihx ihy =>
  intro N E σ J c Q a w S ρ κ F O U Y H;cases c
  case cond co cx cy =>
   simp only[bI,aD.bare] at F;split at F
   .rename_i x' y' h1 h2;simp only[Ad,aD.cond.injEq] at F;obtain⟨rfl,rfl,rfl⟩:=F;simp only[wpc] at J;split at J
    .rename_i b hb;have he:=H.ev co;rw[show evO σ.f.s co=_ from hb] at he;have hd:=bE he;cases b
     .exact wp_cond_false hd (ihy _ _ _ (J.get.2 rfl) cy Q a w S ρ κ h2 O U Y H)
     .exact wp_cond_true hd (ihx _ _ _ (J.get.1 rfl) cx Q a w S ρ κ h1 O U Y H)
    .exact J.elim
   .cases F
  all_goals(simp only[bI,aD.bare] at F;first|(cases F;done)|(split at F<;>simp at F)|(simp at F))
 | block id x ih =>
  intro N E σ J c Q a w S ρ κ F O U Y H;cases c
  case block cid cx =>
   simp only[bI,aD.bare] at F;cases h1:bI P C.nt L cx with
   |none=>rw[h1] at F;cases F
   | some x' =>
    rw[h1] at F;simp only[AU,Ad,aD.block.injEq] at F;obtain⟨rfl,rfl⟩:=F;refine wp_block (ih _ _ _ J cx _ a w S ρ κ h1 (λa w Z=>O a w Z) (λi a w Z=>?_) (λa w Z=>Y a w Z) H);obtain⟨σ',S',ρ',κ',hK,I⟩:=Z;simp only[Exit.inBlock];by_cases hi:i=cid
    .rw[AP hi];exact O a w ⟨σ',S',ρ',κ',hK.1 hi,I⟩
    .rw[AB hi];exact U i a w ⟨σ',S',ρ',κ',hK.2 hi,I⟩
  all_goals(simp only[bI,aD.bare] at F;first|(cases F;done)|(split at F<;>simp at F)|(simp at F))
 |loop x ih=>intro N E σ J;exact J
 | exit id =>
  intro N E σ J c Q a w S ρ κ F O U Y H;cases c
  case exit cid =>
   simp only[bI,aD.bare,Ad,aD.exit.injEq] at F;subst F;exact wp_exit (U _ a w ⟨σ,S,ρ,κ,J,H⟩)
  all_goals(simp only[bI,aD.bare] at F;first|(cases F;done)|(split at F<;>simp at F)|(simp at F))
 | ret =>
  intro N E σ J c Q a w S ρ κ F O U Y H;cases c
  case ret=>exact wp_ret (Y a w ⟨σ,S,ρ,κ,J,H⟩)
  all_goals(simp only[bI,aD.bare] at F;first|(cases F;done)|(split at F<;>simp at F)|(simp at F))
 | closing t x ih =>
  intro N E σ J c Q a w S ρ κ F O U Y H;refine ih _ _ _ J c Q a w S ρ κ F (λa' w' Z=>?_) U Y H;obtain⟨σ',S',ρ',κ',ha,I⟩:=Z;exact O a' w' (aBV ha I)
 | naming t x ih =>
  intro N E σ J c Q a w S ρ κ F O U Y H;refine ih _ _ _ J c Q a w S ρ κ F (λa' w' Z=>?_) U Y H;obtain⟨σ',S',ρ',κ',ha,I⟩:=Z;exact O a' w' (aG1 ha I)
def LeL (σ σ':St):Prop:=(∀p,p∈σ'.s->look σ.s p.1=p.2∨p.2=.junk)∧∀p,p∈σ'.h->aA σ.h p.1=some p.2
theorem OK.le {σ σ':St} (F:OK C σ.f a w S ρ κ) (h:LeL σ σ'):OK C σ'.f a w S ρ κ:=by
 refine F.less (λt=>?_) (λn b I=>h.2 _ (pQ _ _ _ I))
 have H:∀(l:List (Nat×AV)),(∀p,p∈l->look σ.s p.1=p.2∨p.2=.junk)->look l t=look σ.s t∨look l t=.junk:=by
  intro l
  induction l with
  |nil=>intro _;exact .inr rfl
  | cons p r ih =>
   grind [look]
 exact H σ'.s h.1
theorem least (p:Nat->Prop) (h:∃n,p n):∃n,p n∧∀m,p m->n<=m:=by
 classical
 obtain⟨n,F⟩:=h
 induction n using Nat.strongRecOn with
 | ind n ih =>
  grind
theorem aM.intro {F:Nat->Array Oper->Option (List Nat)} (hb:fV P F) {X:Type} (H:X->St) (μ:X->Nat) (x0:X) {c:aD}{N:St->Prop}{E:rD->St->Prop}{σ:St}{tg:Tag (N,E)} (h0:LeL σ (H x0))
  (hr:∀x,wpc P C F c (fun σ'=>∃L,LeL σ' (H L)∧μ L<μ x) E (H x)):aM P C F c N E σ tg:=by
 show SemW P C F (.loop c) N E σ
 intro U Q a w S ρ κ I hN hE hR he;cases U
 case loop cx =>
  simp only[bI,aD.bare] at I;cases h1:bI P C.nt F cx with
  |none=>rw[h1] at I;cases I
  | some L =>
   rw[h1] at I;simp only[AU,Ad,aD.loop.injEq] at I;subst I
   classical
   let G:Act->World->Prop:=λa w=>∃x S ρ κ,OK C (H x).f a w S ρ κ
   let m:Act->World->Nat:=λa w=>if h:∃n x,μ x=n∧∃S ρ κ,OK C (H x).f a w S ρ κ then(least _ h).choose else 0
   refine wp_loop G m ⟨x0,S,ρ,κ,he.le h0⟩ ?_;rintro a w hG
   have Y:∃n x,μ x=n∧∃S ρ κ,OK C (H x).f a w S ρ κ:=by
    grind
   obtain⟨x,hx,S,ρ,κ,ha⟩:=(least _ Y).choose_spec.1;have hm:m a w=μ x:=by simp only[m,dif_pos Y];exact hx.symm
   refine uN hb c _ _ _ (hr x) cx _ a w S ρ κ h1 (λa' w' hg=>?_) hE hR ha;obtain⟨σ',S',ρ',κ',⟨L,hd,hf⟩,Z⟩:=hg;have J:=Z.le hd;refine⟨⟨L,S',ρ',κ',J⟩,?_⟩;have O:∃n x,μ x=n∧∃S ρ κ,OK C (H x).f a' w' S ρ κ:=⟨μ L,L,rfl,S',ρ',κ',J⟩
   have:m a' w'<=μ L:=by
    simp only[m,dif_pos O];exact(least _ O).choose_spec.2 _ ⟨L,rfl,S',ρ',κ',J⟩
   omega
 all_goals(simp only[bI,aD.bare] at I;first|(cases I;done)|(split at I<;>simp at I)|(simp at I))
end
section
variable [Envs]
variable {P:Program}{C:Ctx}{a:Act}{w:World}{S:Nat->Prop}{ρ:Name->Option Nat}{κ:Name->Nat}{h:Name->Option Blk}
theorem aD1 (J:HOK S w ρ κ h) {S':Nat->Prop} (hS:∀b,S b->S' b) {E:List Name}{ρ':Name->Option Nat}{κ':Name->Nat}{h':Name->Option Blk}
  (hE:∀j n,E[j]? = some n->ρ' (.b j)=ρ n∧κ' (.b j)=κ n∧∀O,h' (.b j)=some O->∃b,h n=some b∧b.same O) {c:Bool}
  {cs I:List AV}{L:List Name}{vs:Array Value} (H:fD (conv h 8 E c) cs=some (I,L)) (hL:∀n,n∈L->∀y,ρ n=some y->S' y) (hr:∀j,j<cs.length->RV S w ρ κ h (cs.getD j .junk) (vs.getD j undef)) :
  ∀n,n∈L->n∉E∧(h n).isSome:=by
 intro n hn;obtain⟨j,Y,Lj,U,g2⟩:=aAQ H n hn;obtain⟨Z,F,g3⟩:=(gQ H).2 j Y;rw[U] at F;simp only[Ad,AL,Ci] at F;subst F;exact(lJ J hS hE 8 c _ _ _ _ U (λm H=>hL m (g3 m H)) (hr j Y)).2.2 n g2
theorem aGd (O:HOK S w ρ κ h) {B:List Name} (hr:B.Nodup) {x y:AV}{v:Value}{F:List Blk}{L1 L2:List Name} (hx:RV S w ρ κ h x v)
  (hc:conv h 8 B false x=some (y,L1)) (h7:wX h B B=some (F,L2)) :
  ∃ (S':Nat->Prop) (ρ':Name->Option Nat) (κ':Name->Nat),HOK S' w ρ' κ' (Hn (F.map some))∧RV S' w ρ' κ' (Hn (F.map some)) y v∧(∀b,S b->S' b)∧
   (∀b,S' b->S b∨∃n,(h n).isSome∧ρ n=some b)∧(∀j z,(((F.map some).getD j none).isSome)->ρ' (.b j)=some z->∃n,(h n).isSome∧ρ n=some z)∧
   ∀j n,B[j]? = some n->ρ' (.b j)=ρ n∧κ' (.b j)=κ n∧∀J,Hn (F.map some) (.b j)=some J->∃b,h n=some b∧b.same J:=by
 obtain⟨h8,hg,h6⟩:=wU _ _ h7
 let L:=L1++L2
 let S1:Nat->Prop:=λy=>S y∨∃n,n∈L∧ρ n=some y
 let ρ0:Name->Option Nat:=λm=>match m with|.b j=>(B[j]?).bind ρ|.t _ _=>none
 let κ0:Name->Nat:=λm=>match m with|.b j=>((B[j]?).map κ).getD 0|.t _ _=>0
 have ha:∀y,S y->S1 y:=λy hy=>.inl hy;have ho:∀n,n∈L1->n∈L:=λn hn=>Co _ hn;have hp:∀n,n∈L2->n∈L:=λn hn=>CY _ hn
 have hE:∀j n,B[j]? = some n->ρ0 (.b j)=ρ n∧κ0 (.b j)=κ n∧∀J,Hn (F.map some) (.b j)=some J->∃b,h n=some b∧b.same J:=by
  intro j n Z;refine⟨by simp[ρ0,Z],by simp[κ0,Z],λJ Y=>?_⟩;obtain⟨b,b2,Lj,U,H,g3,_,_⟩:=hg j n Z
  have:J=b2:=by
   grind [Hn]
  subst this;refine⟨b,U,?_⟩;cases b with
  | var c z =>
   simp only[fK] at H;cases I:fD (conv h 8 B false) c with
   |none=>rw[I] at H;cases H
   | some p =>
    rw[I] at H;simp only[AU,Ad,AL] at H;rw[←H.1];exact((gQ I).1).symm
  | arr k l z =>
   grind [fK,Blk.same_refl]
 have hf:∀m,m∈L->∀y,ρ m=some y->S1 y:=λm I y hy=>.inr ⟨m,I,hy⟩;have hd:=lJ O ha (κ':=κ0) hE 8
 have hh:∀n,n∈L->n∉B∧(h n).isSome:=by
  intro n hn;rcases Bf.1 hn with hn|hn
  .exact(hd false _ _ _ _ hc (λm I=>hf m (ho m I)) hx).2.2 n hn
  .obtain⟨n',b,J,Lj,U,H,g3,g4⟩:=h6 n hn;cases b with
   | arr k l z =>
    grind [fK]
   | var c z =>
    simp only[fK] at g3;cases I:fD (conv h 8 B false) c with
    |none=>rw[I] at g3;cases g3
    | some p =>
     obtain⟨c',Lp⟩:=p;rw[I] at g3;simp only[AU,Ad,AL] at g3;obtain⟨_,rfl⟩:=g3;obtain⟨x,cs,T,fr,q1,q2,q3,q4,_,q5,q6,q7⟩:=O.blk n' _ H;obtain⟨i,hi⟩:=BI.1 U;obtain⟨b1,b2,Lb,p1,p2,p3,p4,p5⟩:=hg i n' hi;rw[H] at p1;obtain rfl:=Ay p1;simp only[fK,I,AU,Ad,AL] at p2;obtain⟨_,rfl⟩:=p2;exact aD1 O ha (κ':=κ0) hE I (λm I=>hf m (hp m (p5 m I))) (λj Z=>(q7 j Z).2) n g4
 have hv:∀n b,n∈B->h n=some b->b.fz=false->∀x,ρ n=some x->¬S1 x:=by
  rintro n b hn hb hz x hx (hs|⟨m,I,hmx⟩)
  .have:=O.blk n b hb;cases b with
   | var c z =>
    obtain⟨y,_,_,_,U,_,_,H,_⟩:=this;obtain rfl:=Ay (hx.symm.trans U);exact H hz hs
   | arr k l z =>
    obtain⟨_,⟨U,_⟩|⟨y,_,_,_,U,_,_,H,_⟩⟩:=this
    .rw[hx] at U;cases U
    .obtain rfl:=Ay (hx.symm.trans U);exact H hz hs
  all_goals grind [HOK]
 have he:∀j J,Hn (F.map some) (.b j)=some J->∃n b Lj,B[j]? = some n∧h n=some b∧fK h B b=some (J,Lj)∧(∀m,m∈Lj->m∈L2)∧J.fz=false:=by
  intro j J Y
  have Z:j<B.length:=by
   grind [Hn]
  obtain⟨b,b2,Lj,U,H,g3,g4,g5⟩:=hg j B[j] (by simp[Z])
  have:J=b2:=by
   grind [Hn]
  subst this;exact⟨B[j],b,Lj,by simp[Z],U,H,g5,g4⟩
 have ht:HOK S1 w ρ0 κ0 (Hn (F.map some)):=by
  refine⟨λm J Y=>?_,λm m' x h1 h2 h3 h4=>?_,?_,O.env.mono ha λ_ _=>rfl⟩
  .cases m with
   |t=>simp[Hn] at Y
   | b j =>
    obtain⟨n,b,Lj,g0,U,H,g5,g4⟩:=he j J Y;obtain⟨e1,e2,_⟩:=hE j n g0;have hb:=O.blk n b U;have hq:=hv n b (BV g0) U;cases b with
    | var c z =>
     simp only[fK] at H;cases I:fD (conv h 8 B false) c with
     |none=>rw[I] at H;cases H
     | some p =>
      obtain⟨c',Lp⟩:=p;rw[I] at H;simp only[AU,Ad,AL] at H;obtain⟨rfl,rfl⟩:=H;obtain⟨x,cs,T,fr,q1,q2,q3,q4,hk,q5,q6,q7⟩:=hb;obtain⟨l1,l2⟩:=gQ I;refine⟨x,cs,T,fr,by rw[e1];exact q1,q2,q3,λhz=>hq hz x q1,λhz=>.inl (hk hz),by rw[e2];exact q5,by omega,λi hi=>⟨(q7 i (by omega)).1,?_⟩⟩;obtain⟨Li,l3,l4⟩:=l2 i (by omega);exact(hd false _ _ _ _ l3 (λm I=>hf m (hp m (g5 m (l4 m I)))) (q7 i (by omega)).2).1 rfl
    | arr k l z =>
     simp only[fK,Ad,AL] at H;obtain⟨rfl,rfl⟩:=H;obtain⟨q0,⟨q1,q2⟩|⟨x,cs,T,fr,q1,q2,q3,q4,hk,q5,q6,q7⟩⟩:=hb
     .exact⟨q0,.inl ⟨by rw[e1];exact q1,q2⟩⟩
     .exact⟨q0,.inr ⟨x,cs,T,fr,by rw[e1];exact q1,q2,q3,λhz=>hq hz x q1,λhz=>.inl (hk hz),by rw[e2];exact q5,q6,λi j hi Z=>⟨(q7 i j hi Z).1,(q7 i j hi Z).2.mono ha λ_ _=>rfl⟩⟩⟩
  .cases m with
   |t=>simp[Hn] at h1
   | b j =>
    cases m' with
    |t=>simp[Hn] at h2
    | b j' =>
     obtain⟨b1,hw⟩:=AA.1 h1;obtain⟨b2,h5⟩:=AA.1 h2;obtain⟨n,b,_,g0,U,_⟩:=he j b1 hw;obtain⟨n',J,_,hl,hu,_⟩:=he j' b2 h5;rw[(hE j n g0).1] at h3;rw[(hE j' n' hl).1] at h4;obtain rfl:=O.inj n n' x (by simp[U]) (by simp[hu]) h3 h4;congr 1;have e1:=qJ hr g0;have e2:=qJ hr hl;rw[e1] at e2;exact Ay e2
  .rintro y (hy|⟨n,hn,hy⟩)
   .exact O.dom y hy
   .exact O.lt (hh n hn).2 hy
 refine⟨S1,ρ0,κ0,ht,(hd false _ _ _ _ hc (λm I=>hf m (ho m I)) hx).1 rfl,ha,?_,?_,hE⟩
 .grind
 .intro j z Z hz;obtain⟨J,Y⟩:=AA.1 Z;obtain⟨n,b,_,g0,U,_⟩:=he j J Y
  all_goals grind
/-! ## what a function hands back -/
def qX (P:Program) (σ:St) (K:AV->Prop):ResultVar->Prop
 |.tmp t=>K (look σ.s t)
 | .cell A T=>match wK P T with
  |some (g,k)=>rd (evO (look σ.s)) (aA σ.h) K (.load g k (.tmp A))
  |none=>False
def dQ (P:Program) (σ:St) (K:List AV->Prop):List ResultVar->Prop
 | []=>K []
 |r::rs=>qX P σ (λx=>dQ P σ (λxs=>K (x::xs)) rs) r
def dU:List AV->AV
 | [x]=>x
 |l=>.tup l
def aB3 (P:Program) (rs:List ResultVar) (B:List Name) (r:AV) (hout:List Blk) (σ:St):Prop:=
 dQ P σ (λxs=>∃L1 L2,conv (aA σ.h) 8 B false (dU xs)=some (r,L1)∧wX (aA σ.h) B B=some (hout,L2)) rs
def aGX (tmps:Array Value):ResultVar->Sem Value
 |.tmp t=>pure (tmps.getD t undef)
 |.cell A T=>do loadVar T (←asAddr (tmps.getD A undef))
theorem aKs {σ:St}{K:AV->Prop} (I:OK C σ.f a w S ρ κ) {r:ResultVar} (h:qX P σ K r) :
  ∃x v,K x∧RV S w ρ κ σ.f.h x v∧(aGX a.tmps r).run P w=.ok v w:=by
 cases r with
 |tmp t=>exact⟨_,_,h,I.slots t,by simp[aGX]⟩
 | cell A T =>
  simp only[qX] at h;split at h
  .rename_i g k U;obtain⟨x,v,L,H,Z⟩:=aH6 I U h;refine⟨x,v,L,Z,?_⟩;simp only[aGX];have e:a.eval (.tmp A)=a.tmps.getD A undef:=rfl;rw[e] at H;simp only[Instr.loadAt,Sem.run_bind] at H;simp only[rd] at h;have F:=I.ev (.tmp A);rw[e] at F;generalize a.tmps.getD A undef=va at F H⊢;split at h
   .rename_i c J;rw[show evO σ.f.s (.tmp A)=_ from J] at F;cases wQ F with
    | ro _ b off xs _ _ _ _ =>
     grind [Sem.run_bind,asAddr,Instr.sureAddr,Sem.run_pure]
   .rename_i n e' c J;rw[show evO σ.f.s (.tmp A)=_ from J] at F;split at h
    .rename_i b O;obtain⟨y,hy,Y⟩:=iC F b O
     all_goals grind [Sem.run_bind,asAddr,Instr.sureAddr,Sem.run_pure]
    .exact h.elim
   .exact h.elim
  .exact h.elim
theorem aFG {σ:St} (F:OK C σ.f a w S ρ κ):∀{rs:List ResultVar}{K:List AV->Prop},dQ P σ K rs->
  ∃ xs vs,K xs∧vs.length=xs.length∧(∀j,j<xs.length->RV S w ρ κ σ.f.h (xs.getD j .junk) (vs.getD j undef))∧
   (rs.mapM (aGX a.tmps)).run P w=.ok vs w
 | [],K,h=>⟨[],[],h,rfl,by simp,by simp⟩
 | r::rs,K,h=>by
  obtain⟨x,v,H,h2,L⟩:=aKs F h;obtain⟨xs,vs,I,J,O,U⟩:=aFG F H;refine⟨x::xs,v::vs,I,by simp[J],λj Y=>?_,?_⟩
  all_goals grind [Sem.run_bind,Result.andThen_ok,Sem.run_pure,AV,dQ]
theorem mE {σ:St} (H:OK C σ.f a w S ρ κ) {fn:Func}{K:AV->Prop} (h:dQ P σ (λxs=>K (dU xs)) fn.results.toList) :
  ∃x v,K x∧RV S w ρ κ σ.f.h x v∧(results fn a.tmps).run P w=.ok v w:=by
 obtain⟨xs,vs,I,h2,F,J⟩:=aFG H h
 have U:(results fn a.tmps).run P w=.ok (if h:vs.toArray.size=1 then vs.toArray[0] else .tuple vs.toArray) w:=by
  have O:fn.results.mapM (aGX a.tmps)=(do pure (←fn.results.toList.mapM (aGX a.tmps)).toArray):=by
   rw[←Array.toArray_toList (xs:=fn.results),List.mapM_toArray];rfl
  change (do let vs ←fn.results.mapM (aGX a.tmps);pure (if h:vs.size=1 then vs[0] else .tuple vs):Sem Value).run P w=_
  rw[O];simp only[Sem.run_bind,J,Result.andThen_ok,Sem.run_pure]
 refine⟨_,_,I,?_,U⟩
 match xs,vs,h2,F with
 | [x],[v],_,F=>simpa[dU] using F 0 (by simp)
 | [],[],_,F=>exact .tup _ _ rfl (by simp)
 |x::x'::r,v::v'::r',h2,F=>exact .tup _ _ (by simpa using h2.symm) λj L=>by simpa using F j L
def ini:Nat->List AV->List (Nat×AV)
 |_,[]=>[]
 |i,x::r=>(i,x)::ini (i+1) r
theorem aAR:∀(l:List AV) (i t:Nat),look (ini i l) t=if i<=t∧t<i+l.length then l.getD (t-i) .junk else .junk
 | [],i,t=>by simp[ini,look]
 | x::r,i,t=>by
  simp only[ini,look,aAR r (i+1) t,Ab]
  all_goals grind
def aBt:Nat->List Blk->List (Name×Blk)
 |_,[]=>[]
 |i,b::r=>(.b i,b)::aBt (i+1) r
theorem aAW (d j:Nat):∀(l:List Blk) (i:Nat),aA (aBt i l) (.t d j)=none
 | [],i=>rfl
 |b::r,i=>by simp[aBt,aA,aAW d j r]
theorem aAX (j:Nat):∀(l:List Blk) (i:Nat),aA (aBt i l) (.b j)=if i<=j then l[j-i]? else none
 | [],i=>by simp[aBt,aA]
 | b::r,i=>by
  simp only[aBt,aA,Name.b.injEq,aAX j r]
  all_goals grind
theorem kR (l:List Blk):aA (aBt 0 l)=Hn (l.map some):=by
 funext n
 cases n with
 |t d j=>rw[aAW];rfl
 | b j =>
  grind [aAX,Hn]
theorem Fn.intro {H:Nat->Array Oper->Option (List Nat)}{f:FuncId}{fn:Func} (hd:fV P H) {I:Code}{ac:aD}{hin:List Blk}{args:List AV}{r:AV}{F:List Blk} (B:List Name)
  (hf:P.funcs[f]? = some fn) (J:fn.body=some I) (U:fn.name≠"runtime.NumGoroutine") (hc:bI P fn.ntmps H I=some ac.bare) (hl:args.length<=fn.ntmps) (hh:B.Nodup)
  (hB:∀j,j<hin.length->B[j]? = some (.b j))
  (hw:∀C:Ctx,C.nt=fn.ntmps->wpc P C H ac (aB3 P fn.results.toList B r F) (λe σ=>match e with|.ret=>aB3 P fn.results.toList B r F σ|.exit _=>False) ⟨ini 0 args,aBt 0 hin⟩) :
  Fn P f hin args r (F.map some):=by
 refine⟨⟨fn,I,hf,J,U⟩,?_⟩;intro S w ρ κ vs hk _ ho O
 let C:Ctx:={nt:=fn.ntmps,w0:=w,S0:=S,Mut:=aBc ρ hin,ρ0:=λj=>ρ (.b j),κ0:=λj=>κ (.b j),h0:=λj=>hin[j]?}
 have hC:=hw C rfl;refine calls_of_wp hf J ?_
 have L:∀a w',cK C (aB3 P fn.results.toList B r F) a w'->a.defers=[]∧∃v,(results fn a.tmps).run P w'=.ok v w'∧
   ∃v2 S' ρ' κ',Ending.returned v=.returned v2∧Post S w ρ κ hin S' w' ρ' κ' (F.map some)∧RV S' w' ρ' κ' (Hn (F.map some)) r v2:=by
  rintro a w' ⟨σ,S1,ρ1,κ1,hK,hok1⟩;refine⟨hok1.defers,?_⟩;obtain⟨x,v,⟨L1,L2,Y,h2⟩,h3,h4⟩:=mE hok1 (K:=λx=>∃L1 L2,conv (aA σ.h) 8 B false x=some (r,L1)∧wX (aA σ.h) B B=some (F,L2)) hK;refine⟨v,h4,v,?_⟩;obtain⟨S',ρ',κ',g1,g2,g3,g4,g5,g6⟩:=aGd hok1.hok hh h3 Y h2;refine⟨S',ρ',κ',rfl,⟨g1,hok1.size,λb J hm=>hok1.old b J hm,λb J=>g3 b (hok1.S0 b J),λb J=>?_,λj z Z hz=>?_,hok1.out,λj b' Z he=>?_⟩,g2⟩
  .rcases g4 b J with h|⟨n,hn,h⟩
   .exact hok1.Snew b h
   .exact .inr (hok1.mine n b hn h)
  .obtain⟨n,hn,h⟩:=g5 j z Z hz;exact hok1.mine n z hn h
  .obtain⟨e1,e2,e3⟩:=g6 j (.b j) (hB j Z);obtain⟨b,h5,h6⟩:=e3 b' he;obtain⟨e4,e5,b0,h7,h8⟩:=hok1.keep j b h5
   all_goals grind [Blk.same_trans]
 refine uN hd ac _ _ _ hC I _ _ w S ρ κ hc (λa w' hg=>L a w' hg) (λi a w' ⟨_,_,_,_,h,_⟩=>h.elim) (λa w' hg=>L a w' hg) ?_
 have ha:∀n,((Hn (hin.map some)) n).isSome->∃j,j<hin.length∧n=.b j:=by
  grind [Hn,Name]
 refine⟨?_,rfl,λt=>?_,by simp only[St.f,kR];exact hk,Ar _,λ_ _ _=>rfl,λn x Y h2=>?_,λ_ h=>h,λb J=>.inl J,⟨rfl,rfl⟩,λj b J=>?_⟩
 .simp only[C,Array.size_append,Array.size_replicate];omega
 .simp only[St.f,aAR,Nat.zero_le,Ci,BU,Nat.sub_zero,kR];split
  .rename_i ht
   have e:(vs++Array.replicate (fn.ntmps-vs.size) undef).getD t undef=vs.getD t undef:=by
    have Y:t<vs.size:=by omega
    simp[Cz,Y]
   rw[e];exact O t ht
  .exact .junk _
 .simp only[St.f,kR] at Y;obtain⟨j,Z,rfl⟩:=ha n Y;exact .inr ⟨j,Z,h2⟩
 .simp only[St.f,kR] at J;refine⟨rfl,rfl,b,?_,b.same_refl⟩
  all_goals grind [Hn]
theorem fV.none:fV P (λ_ _=>.none):=by
 grind [fV]
end
section
variable [Envs]
def wN:AOp->Bool
 |.box _|.alloc _|.bslice .. | .mk .. | .call .. | .store .. | .append .. | .appendC .. | .bsliceC .. | .clr ..=>false
 |_=>true
end
section
variable [Envs]
def aL:AOp->List Operand
 |.mv x=>[x]
 |.pick c a b=>[c,a,b]
 |.load _ _ a=>[a]
 |.fieldAddr _ x=>[x]
 |.loadV _ _ a=>[a]
 |.fieldV _ x=>[x]
 |.field _ _ _ x=>[x]
 |.idxSl _ x i=>[x,i]
 |.idxArr _ _ x i=>[x,i]
 |.idxAgg _ _ _ x i=>[x,i]
 |.idxStr x i=>[x,i]
 |.bin _ x y=>[x,y]
 |.binS _ x y=>[x,y]
 |.binB _ x y=>[x,y]
 |.un _ x=>[x]
 |.conv _ x=>[x]
 |.b2s x=>[x]
 |.eqA _ _ x y=>[x,y]
 |.idxB x y=>[x,y]
 |.len x=>[x]
 |.lenS x=>[x]
 |.lenC _=>[]
 |.slc _ x a b=>x::(a.toList++b.toList)
 |.sstr x a b=>x::(a.toList++b.toList)
 |.nilc x=>[x]
 |.extract x _=>[x]
 |.build _ ps=>ps.map λp=>p.2.2
 |.mkfn _ cs=>cs
 |.mm _ x y=>[x,y]
 |.box x=>[x]
 |.alloc _=>[]
 |.bslice _ _ _ ps=>ps.map λp=>p.2
 |.mk _ _ _ n=>[n]
 |.call f a _=>f::a
 |.store _ a x=>[a,x]
 |.append _ _ a x=>[a,x]
 |.appendC _ _ a x=>[a,x]
 |.bsliceC _ _ _ ps=>ps.map λp=>p.2
 |.clr _ _ x=>[x]
def Agr (N:Name->Prop) (h h':Name->Option Blk):Prop:=∀n,¬N n->(h n).map frz=(h' n).map frz
def Off (N:Name->Prop) (x:AV):Prop:=∀n,N n->x.has n=false
def eD (N:Name->Prop) (c:List AV):Prop:=∀n,N n->nZ n c=false
def aDu (N:Name->Prop) (b:Blk):Prop:=∀n,N n->b.has n=false
variable {N:Name->Prop}{h h':Name->Option Blk}{ev ev':Operand->AV}
theorem Agr.symm (F:Agr N h h'):Agr N h' h:=λn H=>(F n H).symm
theorem Agr.none (F:Agr N h h') {n:Name} (I:¬N n) (H:h n=none):h' n=none:=by
 have:=F n I;rw[H] at this;cases hx:h' n with
 |none=>rfl
 |some b=>rw[hx] at this;simp at this
theorem Agr.some (H:Agr N h h') {n:Name} (J:¬N n) {b:Blk} (I:h n=some b):∃F,h' n=some F∧frz F=frz b:=by
 have:=H n J;rw[I] at this;cases hx:h' n with
 |none=>rw[hx] at this;simp at this
 |some F=>rw[hx] at this;simp at this;exact⟨F,rfl,this.symm⟩
theorem aMC {b F:Blk} (H:frz F=frz b) (e:Nat):F.row e=b.row e:=by
 cases b<;>cases F<;>simp[frz] at H<;>simp[Blk.row,H];cases e<;>simp[Blk.row,H]
theorem zK {b:Blk}{k:Nat}{l:List (List AV)}{z:Bool} (H:frz b=frz (.arr k l z)):∃F,b=.arr k l F:=by
 grind [frz,Blk]
theorem aCl {b:Blk}{c:List AV}{z:Bool} (H:frz b=frz (.var c z)):∃F,b=.var c F:=by
 grind [frz,Blk]
theorem aMD {b F:Blk} (H:frz F=frz b) (n:Name):F.has n=b.has n:=by
 grind [frz,Blk.has,Blk]
theorem Off.ptr {n:Name}{e c:Nat} (H:Off N (.ptr n e c)):¬N n:=λF=>by simpa[AV.has] using H n F
theorem Off.loc {n:Name}{e c:Nat} (H:Off N (.loc n e c)):¬N n:=λF=>by simpa[AV.has] using H n F
theorem Off.agg {c:List AV} (H:Off N (.agg c)):eD N c:=λn F=>by simpa[AV.has] using H n F
theorem Off.tup {c:List AV} (H:Off N (.tup c)):eD N c:=λn F=>by simpa[AV.has] using H n F
theorem Off.fn {f:FuncId}{c:List AV} (H:Off N (.fn f c)):eD N c:=λn F=>by simpa[AV.has] using H n F
theorem eD.cons {x:AV}{c:List AV} (H:eD N (x::c)):Off N x∧eD N c:=
 ⟨λn F=>by have:=H n F;simp[nZ] at this;exact this.1,λn F=>by have:=H n F;simp[nZ] at this;exact this.2⟩
theorem eD.mk_cons {x:AV}{c:List AV} (I:Off N x) (H:eD N c):eD N (x::c):=λn F=>by simp[nZ,I n F,H n F]
theorem eD.nil:eD N []:=λ_ _=>rfl
theorem eD.mem:∀{c:List AV},eD N c->∀x,x∈c->Off N x
 | [],_,x,hx=>by cases hx
 | y::r,ho,x,hx=>by
  rcases Ap.1 hx with rfl|hx
  .exact ho.cons.1
  .exact eD.mem ho.cons.2 x hx
theorem eD.of_mem:∀{c:List AV},(∀x,x∈c->Off N x)->eD N c
 | [],_=>eD.nil
 |_::_,h=>eD.mk_cons (h _ (by simp)) (eD.of_mem λx F=>h x (by simp[F]))
theorem eD.getD {c:List AV} (H:eD N c) (j:Nat):Off N (c.getD j .junk):=λn F=>sD (H n F)
theorem eD.drop {c:List AV} (F:eD N c) (j:Nat):eD N (c.drop j):=eD.of_mem λx H=>F.mem x (C8 H)
theorem eD.take {c:List AV} (F:eD N c) (j:Nat):eD N (c.take j):=eD.of_mem λx H=>F.mem x (CE H)
theorem Off.v (x:Value):Off N (.v x):=λ_ _=>rfl
theorem Off.junk:Off N .junk:=λ_ _=>rfl
theorem Off.sl (k:Nat) (l:List (List AV)):Off N (.sl k l):=λ_ _=>rfl
theorem Off.ro (c:List AV):Off N (.ro c):=λ_ _=>rfl
theorem Off.mk_agg {c:List AV} (H:eD N c):Off N (.agg c):=λn F=>by simpa[AV.has] using H n F
theorem Off.mk_fn {f:FuncId}{c:List AV} (H:eD N c):Off N (.fn f c):=λn F=>by simpa[AV.has] using H n F
theorem Off.mk_tup {c:List AV} (H:eD N c):Off N (.tup c):=λn F=>by simpa[AV.has] using H n F
theorem Off.mk_ptr {n:Name}{e c:Nat} (H:¬N n):Off N (.ptr n e c):=λm F=>by
 grind [AV.has]
theorem Off.mk_loc {n:Name}{e c:Nat} (H:¬N n):Off N (.loc n e c):=λm F=>by
 grind [AV.has]
theorem aCS (H:Agr N h h') {x:AV} (I:Off N x):oQ h x=oQ h' x:=by
 cases x<;>try rfl
 case loc n off len =>
  simp only[oQ];cases hx:h n with
  |none=>rw[H.none I.loc hx]
  | some b =>
   obtain⟨J,F,e⟩:=H.some I.loc hx;rw[F];cases b<;>cases J<;>simp[frz] at e<;>rfl
 case ptr n e c =>
  simp only[oQ];cases hx:h n with
  |none=>rw[H.none I.ptr hx]
  | some b =>
   obtain⟨J,F,e⟩:=H.some I.ptr hx;rw[F];rfl
theorem aBG {p q:AV->Bool}:∀{c:List AV},(∀x,x∈c->p x=q x)->c.all p=c.all q
 | [],_=>rfl
 |x::r,h=>by simp only[BK,h x (by simp),aBG (c:=r) λy F=>h y (by simp[F])]
theorem aDl (F:Agr N h h') {x:AV} (H:Off N x):kW h x=kW h' x:=by
 cases x
 case agg c =>
  simp only[kW];rw[aBG (q:=oQ h') λx I=>aCS F (H.agg.mem x I)]
 all_goals simp only[kW,aCS F H]
theorem aHu {x:AV} (H:Off N x) {c:List AV} (F:kW h x=some c):eD N c:=by
 cases x
 case agg c' =>
  simp only[kW] at F;split at F
  .obtain rfl:=Ay F;exact H.agg
  .cases F
 all_goals grind [kW,eD.mk_cons,eD.nil]
theorem aAg (J:Agr N h h'):∀{F:List (Nat×Nat×Operand)}{cs:List AV}{K:List AV->Prop},(∀p,p∈F->ev p.2.2=ev' p.2.2∧Off N (ev p.2.2))->layAll ev h cs F K->layAll ev' h' cs F K
 | [],_,_,_,hk=>hk
 | (o,n,x)::r,cs,K,he,hk=>by
  obtain⟨H,I⟩:=he (o,n,x) (by simp);simp only at H I;simp only[layAll] at hk⊢;rw[←H,←aDl J I];split at hk
  .exact⟨hk.1,aAg J (λp L=>he p (by simp[L])) hk.2⟩
  .exact hk
theorem xY:∀{H:List (Nat×Nat×Operand)}{cs:List AV}{K F:List AV->Prop},(∀c,K c->F c)->layAll ev h cs H K->layAll ev h cs H F
 | [],_,_,_,hh,hk=>hh _ hk
 | (o,n,x)::r,cs,K,F,hh,hk=>by
  simp only[layAll] at hk⊢;split at hk
  .exact⟨hk.1,xY hh hk.2⟩
  .exact hk
theorem wL:∀{F:List (Nat×Nat×Operand)}{cs:List AV}{K:List AV->Prop},layAll ev h cs F K->∃c,K c∧layAll ev h cs F (λH=>H=c)
 | [],cs,_,hk=>⟨cs,hk,rfl⟩
 | (o,n,x)::r,cs,K,hk=>by
  simp only[layAll] at hk⊢;split at hk
  .obtain⟨c,I,h2⟩:=wL hk.2;exact⟨c,I,hk.1,h2⟩
  .exact hk.elim
end
section
variable [Envs]
variable {N:Name->Prop}{h h':Name->Option Blk}{ev ev':Operand->AV}
theorem aI0 (F:Agr N h h') {k:Nat}{x:AV} (H:Off N x):qD k h x=qD k h' x:=by
 cases x<;>try rfl
 case v x=>unfold qD;split<;>first|rfl|simp_all
 case loc n off len =>
  simp only[qD];cases hx:h n with
  |none=>rw[F.none H.loc hx]
  | some b =>
   obtain⟨J,I,e⟩:=F.some H.loc hx
   all_goals grind [zK]
theorem aNE (Y:Agr N h h') {op:AOp}{K:AV->Prop} (H:∀o,o∈aL op->ev o=ev' o∧Off N (ev o)) (F:rd ev h K op):rd ev' h' K op:=by
 cases op
 case mv x=>simpa only[rd,(H x (by simp[aL])).1] using F
 case pick c a b =>
  simp only[rd] at F⊢
  all_goals grind [aL]
 case load g k a =>
  have⟨L,I⟩:=H a (by simp[aL]);simp only[rd,←L] at F⊢;split at F
  .exact F
  .rename_i n e c U;rw[U] at I;split at F
   .rename_i b O;obtain⟨b',J,Z⟩:=Y.some I.ptr O;simp only[J,aMC Z];exact F
   .exact F.elim
  .exact F.elim
 case fieldAddr off x =>
  have⟨L,I⟩:=H x (by simp[aL]);simp only[rd,←L] at F⊢;split at F
  .rename_i n e c U;rw[U] at I;split at F
   .rename_i b O;obtain⟨b',J,Z⟩:=Y.some I.ptr O;simp only[J];exact F
   .exact F.elim
  .exact F
  .exact F.elim
 case loadV g k a =>
  have⟨L,I⟩:=H a (by simp[aL]);simp only[rd,←L] at F⊢;split at F
  .rename_i n e c U;rw[U] at I;split at F
   .rename_i cs z O;obtain⟨b',J,Z⟩:=Y.some I.ptr O;obtain⟨z',rfl⟩:=aCl Z;simp only[J];have er:(Blk.var cs z').row e=(Blk.var cs z).row e:=by cases e<;>rfl
    rw[er];exact F
   .exact F.elim
  .exact F.elim
 case fieldV off x =>
  have⟨L,I⟩:=H x (by simp[aL]);simp only[rd,←L] at F⊢;split at F
  .rename_i n e c U;rw[U] at I;split at F
   .rename_i cs z O;obtain⟨b',J,Z⟩:=Y.some I.ptr O
    all_goals grind [aCl]
   .exact F.elim
  .exact F.elim
 case field g off k x=>simpa only[rd,(H x (by simp[aL])).1] using F
 case idxSl k x i =>
  have⟨L,I⟩:=H x (by simp[aL]);have⟨e3,_⟩:=H i (by simp[aL]);simp only[rd,←L,←e3] at F⊢;split at F
  .exact F
  .rename_i n off len kk i' U hi;rw[U] at I;split at F
   .rename_i k' l z O;obtain⟨b',J,Z⟩:=Y.some I.loc O
    all_goals grind [zK]
   .exact F.elim
  .exact F.elim
 case idxArr n k x i =>
  have⟨L,I⟩:=H x (by simp[aL]);have⟨e3,_⟩:=H i (by simp[aL]);simp only[rd,←L,←e3] at F⊢;split at F
  .exact F
  .rename_i m e c kk i' U hi;rw[U] at I;split at F
   .rename_i b O;obtain⟨b',J,Z⟩:=Y.some I.ptr O;simp only[J];exact F
   .exact F.elim
  .exact F.elim
 case idxAgg g n k x i=>simpa only[rd,(H x (by simp[aL])).1,(H i (by simp[aL])).1] using F
 case idxStr x i=>simpa only[rd,(H x (by simp[aL])).1,(H i (by simp[aL])).1] using F
 case bin o x y=>simpa only[rd,(H x (by simp[aL])).1,(H y (by simp[aL])).1] using F
 case binS o x y=>simpa only[rd,(H x (by simp[aL])).1,(H y (by simp[aL])).1] using F
 case binB o x y=>simpa only[rd,(H x (by simp[aL])).1,(H y (by simp[aL])).1] using F
 case un o x=>simpa only[rd,(H x (by simp[aL])).1] using F
 case conv k x=>simpa only[rd,(H x (by simp[aL])).1] using F
 case len x =>
  have⟨L,I⟩:=H x (by simp[aL]);simp only[rd,←L] at F⊢;split at F
  .exact F
  .rename_i n off len U;rw[U] at I;split at F
   .rename_i k' l z O;obtain⟨b',J,Z⟩:=Y.some I.loc O
    all_goals grind [zK]
   .exact F.elim
  .exact F
  .exact F.elim
 case lenS x=>simpa only[rd,(H x (by simp[aL])).1] using F
 case lenC n=>exact F
 case slc k x lo hi =>
  have⟨L,I⟩:=H x (by simp[aL])
  have e3:lo.map ev=lo.map ev':=by
   cases lo with
   |none=>rfl
   |some o=>simp[(H o (by simp[aL])).1]
  have e4:hi.map ev=hi.map ev':=by
   cases hi with
   |none=>rfl
   |some o=>simp[(H o (by simp[aL])).1]
  simp only[rd,←L,←e3,←e4] at F⊢;split at F
  .exact F
  .rename_i n off len U;rw[U] at I;split at F
   .rename_i k' l z O;obtain⟨b',J,Z⟩:=Y.some I.loc O
    all_goals grind [zK]
   .exact F.elim
  .exact F.elim
 case sstr x lo hi =>
  have⟨L,I⟩:=H x (by simp[aL])
  have e3:lo.map ev=lo.map ev':=by
   cases lo with
   |none=>rfl
   |some o=>simp[(H o (by simp[aL])).1]
  have e4:hi.map ev=hi.map ev':=by
   cases hi with
   |none=>rfl
   |some o=>simp[(H o (by simp[aL])).1]
  simpa only[rd,←L,←e3,←e4] using F
 case nilc x =>
  have⟨L,I⟩:=H x (by simp[aL]);simp only[rd,←L] at F⊢;split at F
  .exact F
  .rename_i n e c U;rw[U] at I;split at F
   .rename_i b O;obtain⟨b',J,Z⟩:=Y.some I.ptr O;simp only[J];exact F
   .exact F.elim
  .exact F
  .exact F.elim
 case extract x i=>simpa only[rd,(H x (by simp[aL])).1] using F
 case build z ps =>
  simp only[rd] at F⊢
  all_goals grind [aAg,aL]
 case mkfn f cs =>
  simp only[rd] at F⊢
  all_goals grind [List.map_congr_left,aL]
 case mm mx x y=>simpa only[rd,(H x (by simp[aL])).1,(H y (by simp[aL])).1] using F
 case b2s x =>
  have⟨L,I⟩:=H x (by simp[aL]);simp only[rd,←L,←aI0 Y I] at F⊢;exact F
 case eqA neg ks x y=>simpa only[rd,(H x (by simp[aL])).1,(H y (by simp[aL])).1] using F
 case idxB x y=>simpa only[rd,(H x (by simp[aL])).1,(H y (by simp[aL])).1] using F
 all_goals exact F.elim
theorem aHy {op:BinOp}{k I:IntKind}{a b:Int}{K:AV->Prop} (F:aGu op k I a b K):∃x:Value,K (.v x)∧∀H:AV->Prop,H (.v x)->aGu op k I a b H:=by
 cases op<;>simp only[aGu] at F⊢<;> exact⟨_,F.2,λ_ J=>⟨F.1,J⟩⟩
theorem aE8 {op:BinOp}{a b:ByteArray}{K:AV->Prop} (H:aBF op a b K):∃x:Value,K (.v x)∧∀F:AV->Prop,F (.v x)->aBF op a b F:=by
 grind [aBF,BinOp]
theorem aDI {op:BinOp}{a b:Bool}{K:AV->Prop} (H:zS op a b K):∃x:Value,K (.v x)∧∀F:AV->Prop,F (.v x)->zS op a b F:=by
 grind [zS,BinOp]
inductive Nm:(Name->Prop)->AV->Prop
 |junk (p:Name->Prop):Nm p .junk
 |v (p:Name->Prop) (x:Value):Nm p (.v x)
 |sl (p:Name->Prop) (k:Nat) (l:List (List AV)) (hl:∀r,r∈l->∀x,x∈r->Nm (λ_=>False) x):Nm p (.sl k l)
 |ro (p:Name->Prop) (c:List AV) (hc:∀x,x∈c->Nm (λ_=>False) x):Nm p (.ro c)
 |loc (p:Name->Prop) (n:Name) (off len:Nat) (hn:p n):Nm p (.loc n off len)
 |ptr (p:Name->Prop) (n:Name) (e c:Nat) (hn:p n):Nm p (.ptr n e c)
 |fn (p:Name->Prop) (f:FuncId) (c:List AV) (hc:∀x,x∈c->Nm p x):Nm p (.fn f c)
 |agg (p:Name->Prop) (c:List AV) (hc:∀x,x∈c->Nm p x):Nm p (.agg c)
 |tup (p:Name->Prop) (c:List AV) (hc:∀x,x∈c->Nm p x):Nm p (.tup c)
def NmL (p:Name->Prop) (c:List AV):Prop:=∀x,x∈c->Nm p x
def NmB (p:Name->Prop):Blk->Prop
 |.var c _=>NmL p c
 |.arr _ l _=>∀r,r∈l->NmL (λ_=>False) r
theorem Nm.mono {p q:Name->Prop}{x:AV} (H:Nm p x) (F:∀n,p n->q n):Nm q x:=by
 induction H with
 |junk=>exact .junk _
 |v=>exact .v _ _
 |sl _ k l hl _=>exact .sl _ k l hl
 |ro _ c hc _=>exact .ro _ c hc
 |loc _ n off len hn=>exact .loc _ n off len (F n hn)
 |ptr _ n e c hn=>exact .ptr _ n e c (F n hn)
 |fn _ f c hc ih=>exact .fn _ f c λx H=>ih x H F
 |agg _ c hc ih=>exact .agg _ c λx H=>ih x H F
 |tup _ c hc ih=>exact .tup _ c λx H=>ih x H F
theorem Nm.off {p:Name->Prop}{x:AV} (F:Nm p x) (H:∀n,p n->¬N n):Off N x:=by
 induction F with
 |junk=>exact Off.junk
 |v=>exact Off.v _
 |sl=>exact Off.sl _ _
 |ro=>exact Off.ro _
 |loc _ n off len hn=>exact Off.mk_loc (H n hn)
 |ptr _ n e c hn=>exact Off.mk_ptr (H n hn)
 |fn _ f c hc ih=>exact Off.mk_fn (eD.of_mem λx F=>ih x F H)
 |agg _ c hc ih=>exact Off.mk_agg (eD.of_mem λx F=>ih x F H)
 |tup _ c hc ih=>exact Off.mk_tup (eD.of_mem λx F=>ih x F H)
theorem Nm.of_off {p:Name->Prop}{x:AV} (F:Nm p x) (H:Off N x):Nm (λn=>¬N n) x:=by
 induction F with
 |junk=>exact .junk _
 |v=>exact .v _ _
 |sl _ k l hl _=>exact .sl _ k l hl
 |ro _ c hc _=>exact .ro _ c hc
 |loc _ n off len hn=>exact .loc _ n off len H.loc
 |ptr _ n e c hn=>exact .ptr _ n e c H.ptr
 |fn _ f c hc ih=>exact .fn _ f c λx F=>ih x F (H.fn.mem x F)
 |agg _ c hc ih=>exact .agg _ c λx F=>ih x F (H.agg.mem x F)
 |tup _ c hc ih=>exact .tup _ c λx F=>ih x F (H.tup.mem x F)
theorem Nm.getD {p:Name->Prop}{c:List AV} (F:NmL p c) (j:Nat):Nm p (c.getD j .junk):=by
 grind [NmL,Nm]
theorem NmL.drop {p:Name->Prop}{c:List AV} (F:NmL p c) (j:Nat):NmL p (c.drop j):=λx H=>F x (C8 H)
theorem NmL.take {p:Name->Prop}{c:List AV} (F:NmL p c) (j:Nat):NmL p (c.take j):=λx H=>F x (CE H)
theorem NmL.mk {p:Name->Prop}{g:Bool}{c:List AV} (F:NmL p c):Nm p (AV.mk g c):=by
 cases g
 .cases c with
  |nil=>exact .junk _
  |cons x r=>exact F x (by simp)
 .exact .agg _ c F
theorem NmL.closed {p:Name->Prop}{c:List AV} (F:NmL (λ_=>False) c):NmL p c:=λx H=>(F x H).mono λ_ h=>h.elim
theorem Nm.wQ {p:Name->Prop}{c:List AV} (h:Nm p (.ro c)):NmL (λ_=>False) c:=by cases h;assumption
theorem Nm.aAi {p:Name->Prop}{k:Nat}{l:List (List AV)} (h:Nm p (.sl k l)):∀r,r∈l->NmL (λ_=>False) r:=by cases h;assumption
theorem Nm.iC {p:Name->Prop}{n:Name}{e c:Nat} (h:Nm p (.ptr n e c)):p n:=by cases h;assumption
theorem Nm.iN {p:Name->Prop}{n:Name}{e c:Nat} (h:Nm p (.loc n e c)):p n:=by cases h;assumption
theorem Nm.uC {p:Name->Prop}{c:List AV} (h:Nm p (.tup c)):NmL p c:=by cases h;assumption
theorem NmB.row {p:Name->Prop}{b:Blk} (H:NmB p b) (e:Nat):NmL p (b.row e):=by
 cases b with
 | var c z=>cases e with
  |zero=>exact H
  |succ e=>intro x F;simp[Blk.row] at F
 | arr k l z =>
  intro x F;simp only[Blk.row] at F;rcases Dc e l.length with h|h
  .have:l.getD e []=l[e]:=by simp[List.getD,h]
   rw[this] at F;exact(H _ (Aa h) x F).mono λ_ h=>h.elim
  all_goals grind
theorem aJF {p:Name->Prop}{x:AV} (H:Nm p x) {c:List AV} (F:kW h x=some c):NmL p c:=by
 grind [kW,Nm,NmL]
theorem aKS {p:Name->Prop}:∀{xs cs:List AV}{o:Nat},NmL p xs->NmL p cs->NmL p (lay cs o xs)
 | [],_,_,_,hc=>hc
 | x::r,cs,o,hx,hc=>by
  rw[lay];refine aKS (λy F=>hx y (by simp[F])) λy F=>?_
  all_goals grind [NmL]
theorem aD3 {p:Name->Prop}:∀{H:List (Nat×Nat×Operand)}{cs:List AV}{c:List AV},(∀q,q∈H->Nm p (ev q.2.2))->NmL p cs->layAll ev h cs H (λI=>I=c)->NmL p c
 | [],_,_,_,hc,hk=>by cases hk;exact hc
 | (o,n,x)::r,cs,K,he,hc,hk=>by
  simp only[layAll] at hk;split at hk
  .rename_i c F;exact aD3 (λp J=>he p (by simp[J])) (aKS (aJF (he (o,n,x) (by simp)) F) hc) hk.2
  .exact hk.elim
theorem aCH {op:AOp}{K:AV->Prop} (F:rd ev h K op):∃x,K x∧(∀L:AV->Prop,L x->rd ev h L op)∧
  ∀p:Name->Prop,(∀z Z,op=.build z Z->NmL p z)->(∀o,o∈aL op->Nm p (ev o))->(∀n b,p n->h n=some b->NmB p b)->Nm p x:=by
 cases op
 case mv x=>exact⟨_,F,λ_ H=>H,λp _ I _=>I x (by simp[aL])⟩
 case pick c a b =>
  simp only[rd] at F⊢;split at F
  .rename_i t ht;cases t
   .exact⟨_,F.get.2 rfl,λ_ H=>Br.mk (λh=>(by cases h)) (λ_=>H),λp _ I _=>I b (by simp[aL])⟩
   .exact⟨_,F.get.1 rfl,λ_ H=>Br.mk (λ_=>H) (λh=>(by cases h)),λp _ I _=>I a (by simp[aL])⟩
  .exact F.elim
 case load g k a =>
  simp only[rd] at F⊢;split at F
  .rename_i c J
   exact ⟨_,F.2,λ_ H=>⟨F.1,H⟩,λp _ I _=>by
     have:=I a (by simp[aL]);rw[J] at this;exact NmL.mk (NmL.take (NmL.closed this.wQ) _)⟩
  .rename_i n e c J;split at F
   .rename_i b O
    exact ⟨_,F.2,λ_ H=>⟨F.1,H⟩,λp _ I Y=>by
      have:=I a (by simp[aL]);rw[J] at this;exact NmL.mk (NmL.take (NmL.drop ((Y n b this.iC O).row e) _) _)⟩
   .exact F.elim
  .exact F.elim
 case fieldAddr off x =>
  simp only[rd] at F⊢
  all_goals grind [aL,Nm]
 case loadV g k a =>
  simp only[rd] at F⊢;split at F
  .rename_i n e c J;split at F
   .rename_i cs z O
    exact ⟨_,F.2,λ_ H=>⟨F.1,H⟩,λp _ I Y=>by
      have:=I a (by simp[aL]);rw[J] at this;exact NmL.mk (NmL.take (NmL.drop ((Y n _ this.iC O).row e) _) _)⟩
   .exact F.elim
  .exact F.elim
 case fieldV off x =>
  simp only[rd] at F⊢
  all_goals grind [aL,Nm]
 case field g off k x =>
  simp only[rd] at F⊢
  all_goals grind [aL,NmL.mk,NmL,Nm]
 case idxSl k x i =>
  simp only[rd] at F⊢
  all_goals grind [aL,Nm]
 case idxArr n k x i =>
  simp only[rd] at F⊢
  all_goals grind [aL,Nm]
 case idxAgg g n k x i =>
  simp only[rd] at F⊢
  all_goals grind [aL,NmL.mk,NmL,Nm]
 case idxStr x i =>
  simp only[rd] at F⊢
  all_goals grind [Nm]
 case bin o x y =>
  simp only[rd] at F⊢
  all_goals grind [aHy,Nm]
 case binS o x y =>
  simp only[rd] at F⊢
  all_goals grind [aE8,Nm]
 case binB o x y =>
  simp only[rd] at F⊢
  all_goals grind [aDI,Nm]
 case un o x =>
  simp only[rd] at F⊢
  all_goals grind [Nm]
 case conv k x =>
  simp only[rd] at F⊢
  all_goals grind [Nm]
 case len x =>
  simp only[rd] at F⊢
  all_goals grind [Nm]
 case lenS x =>
  simp only[rd] at F⊢
  all_goals grind [Nm]
 case lenC n=>exact⟨_,F,λ_ H=>H,λp _ _ _=>.v _ _⟩
 case slc k x lo hi =>
  simp only[rd] at F⊢;split at F
  .rename_i k' l J
   have fin:∀p:Name->Prop,(∀o,o∈aL (.slc k x lo hi)->Nm p (ev o))->∀a b,Nm p (.sl k ((l.take a).drop b)):=λp I a b=>by
    have:=I x (by simp[aL]);rw[J] at this;exact .sl _ _ _ λr hr=>this.aAi r (CE (C8 hr))
   split at F
   .exact⟨_,F.2,λ_ H=>⟨F.1,H⟩,λp _ I _=>fin p I _ _⟩
   .exact⟨_,F.2,λ_ H=>⟨F.1,H⟩,λp _ I _=>fin p I _ _⟩
   .exact⟨_,F.2,λ_ H=>⟨F.1,H⟩,λp _ I _=>fin p I _ _⟩
   .exact⟨_,F.2,λ_ H=>⟨F.1,H⟩,λp _ I _=>fin p I _ _⟩
   .exact F.elim
  .rename_i n off len J
   have fin:∀p:Name->Prop,(∀o,o∈aL (.slc k x lo hi)->Nm p (ev o))->∀a b,Nm p (.loc n a b):=λp I a b=>by
    have:=I x (by simp[aL]);rw[J] at this;exact .loc _ _ _ _ this.iN
   split at F
   .split at F
    .exact⟨_,F.2,λ_ H=>⟨F.1,H⟩,λp _ I _=>fin p I _ _⟩
    .exact⟨_,F.2,λ_ H=>⟨F.1,H⟩,λp _ I _=>fin p I _ _⟩
    .exact⟨_,F.2,λ_ H=>⟨F.1,H⟩,λp _ I _=>fin p I _ _⟩
    .exact⟨_,F.2,λ_ H=>⟨F.1,H⟩,λp _ I _=>fin p I _ _⟩
    .exact F.elim
   .exact F.elim
  .exact F.elim
 case sstr x lo hi =>
  simp only[rd] at F⊢
  all_goals grind [Nm]
 case nilc x =>
  simp only[rd] at F⊢
  all_goals grind [aL]
 case extract x i =>
  simp only[rd] at F⊢
  all_goals grind [aL,Nm]
 case build z Z =>
  simp only[rd] at F⊢;obtain⟨c,h1,h2⟩:=wL F;refine⟨_,h1,?_,λp hz I _=>?_⟩
  .exact λL H=>xY (λc' U=>by rw[U];exact H) h2
  .exact .agg _ _ (aD3 (λq hq=>I _ (by simp only[aL,Bq];exact⟨q,hq,rfl⟩)) (hz z Z rfl) h2)
 case mkfn f cs =>
  simp only[rd] at F⊢
  all_goals grind [aL,Nm]
 case mm mx x y =>
  simp only[rd] at F⊢
  all_goals grind [Nm]
 case b2s x =>
  simp only[rd] at F⊢
  all_goals grind [Nm]
 case idxB x y =>
  simp only[rd] at F⊢
  all_goals grind [Nm]
 case eqA neg ks x y =>
  simp only[rd] at F⊢
  all_goals grind [Nm]
 all_goals exact F.elim
end
section
variable [Envs]
variable {P:Program}{C:Ctx}{a:Act}{w:World}{S:Nat->Prop}{ρ:Name->Option Nat}{κ:Name->Nat}
variable {N:Name->Prop}{h h':Name->Option Blk}{ev ev':Operand->AV}
theorem aOf {n:Name} (I:Agr N h h') {op:AOp}{K:AV->Blk->Prop} (Y:∀z,op=.alloc z->eD N z) (F:∀k m z H,op=.bslice k m z H->eD N z) (O:∀k m z x,op=.mk k m z x->eD N z)
  (U:∀o,o∈aL op->ev o=ev' o∧Off N (ev o)) (J:al ev h n K op):al ev' h' n K op:=by
 cases op
 all_goals try grind [aL,al,aDl,oQ,dA,AV]
 case bslice k m z H =>
  simp only[al] at J⊢;rw[←aBG (p:=oQ h) λx L=>aCS I ((F k m z H rfl).mem x L)]
  all_goals grind [aAg,aL]
 all_goals grind [aL,al,oQ,dA,AV]
theorem yL {n:Name}{op:AOp}{K:AV->Blk->Prop} (F:al ev h n K op):∃x b,K x b∧(∀J:AV->Blk->Prop,J x b->al ev h n J op)∧
  (∀N:Name->Prop,¬N n->Off N x)∧∀N:Name->Prop,(∀z,op=.alloc z->eD N z)->(∀o,o∈aL op->Off N (ev o))->aDu N b:=by
 cases op
 case box x =>
  simp only[al] at F⊢;split at F
  .rename_i c Y;exact⟨_,_,F,λ_ h=>h,λN H=>Off.mk_ptr H,λN _ Z m I=>aHu (Z x (by simp[aL])) Y m I⟩
  .exact F.elim
 case alloc z =>
  simp only[al] at F⊢;exact⟨_,_,F.2,λ_ h=>⟨F.1,h⟩,λN H=>Off.mk_ptr H,λN hz _ m I=>hz z rfl m I⟩
 case bslice k m z ps =>
  simp only[al] at F⊢;obtain⟨c,⟨O,h2⟩,U⟩:=wL F.2;refine⟨_,_,h2,λJ h=>⟨F.1,xY (λc' L=>?_) U⟩,λN H=>Off.mk_loc H,λN _ _ m I=>rfl⟩;rw[L];exact⟨O,h⟩
 case mk k y z x =>
  simp only[al] at F⊢;split at F
  .exact⟨_,_,F.2,λ_ h=>⟨F.1,h⟩,λN H=>Off.mk_loc H,λN _ _ m I=>rfl⟩
  .exact F.elim
 all_goals exact F.elim
theorem aC2 {f g:AV->Option (AV×List Name)}:∀{c:List AV},(∀x,x∈c->f x=g x)->fD f c=fD g c
 | [],_=>rfl
 |x::r,hh=>by simp only[fD,hh x (by simp),aC2 (c:=r) λy F=>hh y (by simp[F])]
theorem aAf {f:AV->Option (AV×List Name)} (p:Name->Prop):∀{c F:List AV}{L:List Name},(∀x,x∈c->∀y L,f x=some (y,L)->∀n,n∈L->p n)->fD f c=some (F,L)->∀n,n∈L->p n
 | [],F,L,_,hm,n,hn=>by
  grind [fD]
 | x::r,F,L,hh,hm,n,hn=>by
  simp only[fD] at hm;split at hm
  .rename_i y I ys J O h2;simp only[Ad,AL] at hm;rw[←hm.2] at hn;rcases Bf.1 hn with hn|hn
   .grind
   .exact aAf p (λz H=>hh z (by simp[H])) h2 n hn
  .cases hm
theorem aGn (Z:Agr N h h') (hb:∀n b,¬N n->h n=some b->aDu N b):∀(m:Nat) (c:Bool) (x:AV),Off N x->conv h m [] c x=conv h' m [] c x∧∀y L,conv h m [] c x=some (y,L)->∀n,n∈L->¬N n:=by
 intro m
 induction m with
 |zero=>intro c x _;exact⟨rfl,λy L h=>by simp[conv] at h⟩
 | succ m ih =>
  intro c x H
  have I:∀(c:Bool) (cs:List AV),eD N cs->fD (conv h m [] c) cs=fD (conv h' m [] c) cs∧∀ys L,fD (conv h m [] c) cs=some (ys,L)->∀n,n∈L->¬N n:=λc cs Y =>
   ⟨aC2 λx J=>(ih c x (Y.mem x J)).1,λys L U=>aAf (λn=>¬N n) (λx J y L hc=>(ih c x (Y.mem x J)).2 y L hc) U⟩
  cases x
  case junk=>exact⟨rfl,λy L h=>by simp only[conv] at h;split at h<;>simp at h;rw[h.2];simp⟩
  case v x=>exact⟨rfl,λy L h=>by simp only[conv,Ad,AL] at h;rw[←h.2];simp⟩
  case sl k l=>exact⟨rfl,λy L h=>by simp only[conv,Ad,AL] at h;rw[←h.2];simp⟩
  case ro c=>exact⟨rfl,λy L h=>by simp only[conv,Ad,AL] at h;rw[←h.2];simp⟩
  case loc n off len =>
   simp only[conv,lH];cases J:h n with
   |none=>rw[Z.none H.loc J];exact⟨rfl,λy L h=>by simp at h⟩
   | some b =>
    obtain⟨b',O,e⟩:=Z.some H.loc J;rw[O];cases b with
    | var c z =>
     grind [aCl]
    | arr k l z =>
     obtain⟨z',rfl⟩:=zK e;refine⟨rfl,λy L h=>?_⟩;simp only[Ad,AL] at h;rw[←h.2];intro n' F;rw[Au.1 F];exact H.loc
  case ptr n e o =>
   simp only[conv,lH];cases J:h n with
   |none=>rw[Z.none H.ptr J];exact⟨rfl,λy L h=>by simp at h⟩
   | some b =>
    obtain⟨b',O,e'⟩:=Z.some H.ptr J;rw[O];have hd:=hb n b H.ptr J;cases b with
    | var c z =>
     obtain⟨z',rfl⟩:=aCl e';have hl:=I true c hd;simp only[hl.1,Ci];intro y L h;cases U:fD (conv h' m [] true) c with
     |none=>rw[U] at h;simp at h
     | some q =>
      rw[U] at h;simp only[AU,Ad,AL] at h;rw[←h.2];intro n' F;rcases Ap.1 F with rfl|F
      .exact H.ptr
      .grind
    | arr k l z =>
     obtain⟨z',rfl⟩:=zK e';refine⟨rfl,λy L h=>?_⟩;simp only[Ad,AL] at h;rw[←h.2];intro n' F;rw[Au.1 F];exact H.ptr
  all_goals
   rename_i cs;have hl:=I c cs (by first|exact H.fn|exact H.agg|exact H.tup);simp only[conv,hl.1,Ci];intro y L h;cases U:fD (conv h' m [] c) cs with
   |none=>rw[U] at h;simp at h
   | some q =>
    grind
mutual
theorem aKq (φ:Name->Option Name) (n:Name) (F:∀m,φ m≠some n):∀x:AV,(rn φ x).has n=false
 |.v _=>rfl
 |.sl _ _=>rfl
 |.ro _=>rfl
 |.junk=>rfl
 | .loc m off len=>by
  grind [rn,AV.has]
 | .ptr m e c=>by
  grind [rn,AV.has]
 |.fn f c=>by simp only[rn,AV.has];exact aAI φ n F c
 |.agg c=>by simp only[rn,AV.has];exact aAI φ n F c
 |.tup c=>by simp only[rn,AV.has];exact aAI φ n F c
theorem aAI (φ:Name->Option Name) (n:Name) (F:∀m,φ m≠some n):∀c:List AV,nZ n (rnL φ c)=false
 | []=>rfl
 |x::r=>by simp only[rnL,nZ,aKq φ n F x,aAI φ n F r,Bool.or_self]
end
end
section
variable [Envs]
variable {P:Program}{C:Ctx}{a:Act}{w:World}{S:Nat->Prop}{ρ:Name->Option Nat}{κ:Name->Nat}
structure Dl where
 v:AV
 nb:List (Name×Blk)
 fz:Bool
 L:List Name
 nn:Name->Prop
def app (d:Option Nat) (δ:Dl) (σ:FSt):FSt:=
 ⟨upd σ.s d δ.v,λm=>(aA δ.nb m).or ((σ.h m).map λb=>if δ.fz=true∧m∈δ.L then frz b else b)⟩
def isV:AV->Bool
 |.v _=>true
 |_=>false
def okZ:AOp->Bool
 |.build z _=>z.all isV
 |.alloc z=>z.all isV
 |.bslice _ _ z _=>z.all isV
 |.mk _ _ z _=>z.all isV
 |_=>true
def rA:AOp->Bool
 |.call _ _ bor=>bor.isEmpty
 |.store .. | .append .. | .appendC .. | .bsliceC .. | .clr ..=>false
 |op=>okZ op
theorem aMW {p:Name->Prop}{z:List AV} (h:z.all isV=true):NmL p z:=by
 intro x F;have:=Az.1 h x F;cases x<;>simp[isV] at this;exact .v _ _
theorem aGw {N:Name->Prop}{z:List AV} (h:z.all isV=true):eD N z:=by
 grind [eD.of_mem,isV,Off.v,AV]
inductive Eff (P:Program) (d:Option Nat) (op:AOp) (σ:FSt):Dl->Prop
 | rd (v:AV) (h1:wN op=true) (h2:∀K:AV->Prop,K v->Vs.rd (evO σ.s) σ.h K op)
   (h3:∀p:Name->Prop,(∀o,o∈aL op->Nm p (evO σ.s o))->(∀n b,p n->σ.h n=some b->NmB p b)->Nm p v):Eff P d op σ ⟨v,[],false,[],λ_=>False⟩
 | al (d':Nat) (hd:d=some d') (v:AV) (b:Blk) (h1:∀K:AV->Blk->Prop,K v b->Vs.al (evO σ.s) σ.h (.t d' 0) K op) (hf:iJ (.t d' 0) σ) (hn:b.has (.t d' 0)=false)
   (h2:∀N:Name->Prop,¬N (.t d' 0)->Off N v) (h3:∀N:Name->Prop,(∀o,o∈aL op->Off N (evO σ.s o))->aDu N b):Eff P d op σ ⟨v,[(.t d' 0,b)],false,[],λn=>n=.t d' 0⟩
 | call (d':Nat) (hd:d=some d') (f:Operand) (args:List Operand) (hop:op=.call f args []) (g:FuncId) (caps:List AV) (hg:evO σ.s f=.fn g caps) (ys:List AV) (L:List Name)
   (hm:fD (conv σ.h 8 [] false) (args.map (evO σ.s)++caps)=some (ys,L)) (r:AV) (hout:List (Option Blk)) (fz:Bool) (hfn:Fn P g [] ys r hout)
   (hflat:fz=false->(L=[]∨(flat r=true∧∀b,some b∈hout->iV b))) (hfr:∀j,j<hout.length->iJ (.t d' j) σ) :
   Eff P d op σ ⟨rn (phi [] d' hout.length) r,sP (rnB (phi [] d' hout.length)) d' 0 0 hout,fz,L,λn=>∃j,j<hout.length∧n=.t d' j⟩
def Canon (σ:St):Prop:=(∀p,p∈σ.s->look σ.s p.1=p.2)∧∀p,p∈σ.h->aA σ.h p.1=some p.2
def aDf:List (Nat×AV)->List (Nat×AV)
 | []=>[]
 |(i,x)::r=>(i,x)::(aDf r).filter λp=>!decide (p.1=i)
def aDg:List (Name×Blk)->List (Name×Blk)
 | []=>[]
 |(i,x)::r=>(i,x)::(aDg r).filter λp=>!decide (p.1=i)
theorem uB (i:Nat):∀(s:List (Nat×AV)) (t:Nat),t≠i->look (s.filter λp=>!decide (p.1=i)) t=look s t
 | [],_,_=>rfl
 | (j,x)::r,t,ht=>by
  by_cases F:j=i
  .simp only[DI,F,decide_true,BZ,AR,Bd,look,ht,uB i r t ht]
  .simp only[DI,F,decide_false,Cr,Bj,look,uB i r t ht]
theorem rH (i:Name):∀(s:List (Name×Blk)) (t:Name),t≠i->aA (s.filter λp=>!decide (p.1=i)) t=aA s t
 | [],_,_=>rfl
 | (j,x)::r,t,ht=>by
  by_cases F:j=i
  .simp only[DI,F,decide_true,BZ,AR,Bd,aA,ht,rH i r t ht]
  .simp only[DI,F,decide_false,Cr,Bj,aA,rH i r t ht]
theorem aBz:∀s:List (Nat×AV),look (aDf s)=look s∧∀p,p∈aDf s->look (aDf s) p.1=p.2
 | []=>⟨rfl,by simp[aDf]⟩
 | (i,x)::r=>by
  obtain⟨H,h2⟩:=aBz r
  have e:look (aDf ((i,x)::r))=look ((i,x)::r):=by
   funext t
   simp only[aDf,look];split
   .rfl
   .rename_i I;rw[uB i _ _ I,H]
  refine⟨e,λp F=>?_⟩;simp only[aDf,Ap,Dn,BA,BC] at F;rcases F with rfl|⟨F,hne⟩
  .simp[aDf,look]
  .simp only[aDf,look,hne,Bd];rw[uB i _ _ hne];exact h2 p F
theorem aBA:∀s:List (Name×Blk),aA (aDg s)=aA s∧∀p,p∈aDg s->aA (aDg s) p.1=some p.2
 | []=>⟨rfl,by simp[aDg]⟩
 | (i,x)::r=>by
  obtain⟨H,h2⟩:=aBA r
  have e:aA (aDg ((i,x)::r))=aA ((i,x)::r):=by
   funext t
   simp only[aDg,aA];split
   .rfl
   .rename_i I;rw[rH i _ _ I,H]
  refine⟨e,λp F=>?_⟩;simp only[aDg,Ap,Dn,BA,BC] at F;rcases F with rfl|⟨F,hne⟩
  .simp[aDg,aA]
  .simp only[aDg,aA,hne,Bd];rw[rH i _ _ hne];exact h2 p F
def canon (σ:St):St:=⟨aDf σ.s,aDg σ.h⟩
theorem mF (σ:St):(canon σ).f=σ.f:=by simp only[canon,St.f,(aBz σ.s).1,(aBA σ.h).1]
theorem aA5 (σ:St):Canon (canon σ):=⟨(aBz σ.s).2,(aBA σ.h).2⟩
theorem zL {n:Name}{σ:St} (H:Canon σ) (L:n.isT=true) (I:iJ n σ.f):bT n σ=true:=by
 simp only[bT,Av,Az,BA,BC];refine⟨⟨L,λp F=>?_⟩,λp F=>⟨?_,?_⟩⟩
 .rw[←H.1 p F];exact I.2.1 p.1
 .intro e;have J:=I.1.1;have h2:=H.2 p F;rw[e] at h2;simp only[St.f] at J;rw[J] at h2;cases h2
 .exact I.2.2 p.1 p.2 (H.2 p F)
theorem aAy {op:AOp} (h:wN op=true) {d:Option Nat}{σ:St}{K:St->Prop}:bP P d σ K op↔rd (evO (look σ.s)) (aA σ.h) (λv=>K ⟨put d v σ.s,σ.h⟩) op:=by
 grind [wN,AOp,bP]
theorem aHA {d:Option Nat}{σ:St}{v:AV}{F:Name->Prop}:(St.mk (put d v σ.s) σ.h).f=app d ⟨v,[],false,[],F⟩ σ.f:=by
 simp only[St.f,app,kE,aA,Du,AR,false_and,Bd];congr 1
 funext m
 cases aA σ.h m<;>rfl
theorem aHB {d:Nat}{σ:St}{v:AV}{b:Blk}{n:Name}{H:Name->Prop}:(St.mk ((d,v)::σ.s) ((n,b)::σ.h)).f=app (some d) ⟨v,[(n,b)],false,[],H⟩ σ.f:=by
 simp only[St.f,app,AR,false_and,Bd];congr 1
 funext m
 simp only[aA];by_cases F:m=n
 .simp[F]
 .simp only[F,Bd,Du];cases aA σ.h m<;>rfl
theorem aGv {d:Nat}{σ:St}{v:AV}{F:List (Option Blk)}{fz:Bool}{L:List Name}{H:Name->Prop} :
  (St.mk ((d,v)::σ.s) (zU σ.h [] d F fz L)).f=app (some d) ⟨v,sP (rnB (phi [] d F.length)) d 0 0 F,fz,L,H⟩ σ.f:=by
 simp only[St.f,app];congr 1
 funext m
 unfold zU;rw[aAY];simp only[Ah];congr 1;rw[aAl _ (λm b I h=>by simp[aGx,lH] at h)];cases aA σ.h m with
 |none=>rfl
 |some b=>simp[aGx,lH]
theorem aBT {d:Option Nat}{σ:St}{K:St->Prop}{op:AOp} (F:rA op=true) (Z:wN op=true∨d.isSome=true) (H:bP P d σ K op) :
  ∃δ,Eff P d op σ.f δ∧∃σ':St,σ'.f=app d δ σ.f∧K σ':=by
 by_cases hr:wN op=true
 .rw[aAy hr] at H;obtain⟨x,O,h2,Y⟩:=aCH H;refine⟨_,.rd x hr h2 (λp ho hb=>Y p (λz ps e=>?_) ho hb),_,aHA,O⟩
  all_goals grind [aMW,rA,okZ]
 .have Z:=Z.resolve_left hr;obtain⟨d',rfl⟩:=AA.1 Z
  have J:∀{op:AOp},rA op=true->al (evO (look σ.s)) (aA σ.h) (.t d' 0) (λv b=>(bT (.t d' 0) σ=true∧b.has (.t d' 0)=false)∧K ⟨(d',v)::σ.s,(.t d' 0,b)::σ.h⟩) op->
    ∃δ,Eff P (some d') op σ.f δ∧∃σ':St,σ'.f=app (some d') δ σ.f∧K σ':=by
   intro op F H;obtain⟨x,b,⟨⟨O,h2⟩,Y⟩,h4,h5,h6⟩:=yL H;refine⟨_,.al d' rfl x b h4 (dP O) h2 h5 (λN ho=>h6 N (λz e=>?_) ho),_,aHB,Y⟩;subst e;exact aGw (by simpa[rA,okZ] using F)
  cases op
  case box x=>exact J F H
  case alloc z=>exact J F H
  case bslice k m z ps=>exact J F H
  case mk k y z n=>exact J F H
  case call f args bor =>
   simp only[rA,List.isEmpty_iff] at F;subst F;simp only[bP,aDn] at H;split at H
   .rename_i g caps hg;have hB:aGt σ.h (args.map (evO (look σ.s))) []=[]:=rfl;rw[hB] at H;split at H
    .rename_i ys L1 hin L2 O h2;simp only[wX,Ad,AL] at h2;obtain⟨rfl,rfl⟩:=h2;obtain⟨_,r,L,fz,ha,I,hc,hK⟩:=H;simp only[Be,Ce,Ah] at I hc hK
     have U:∀j,j<L.length->iJ (.t d' j) σ.f:=by
      grind [kT,dP]
     exact⟨_,.call d' rfl f args rfl g caps hg ys L1 O r L fz ha I U,_,aGv,hK⟩
    .exact H.elim
   .exact H.elim
  all_goals grind [rA,wN]
theorem xJ {d:Option Nat}{σ:St}{op:AOp}{δ:Dl} (J:Canon σ) (U:Eff P d op σ.f δ):bP P d σ (fun σ'=>σ'.f=app d δ σ.f) op:=by
 cases U with
 | rd v h1 h2 h3 =>
  rw[aAy h1];exact h2 _ aHA
 | al d' hd v b h1 hf hn h2 h3 =>
  subst hd;have F:=zL J rfl hf;have:=h1 (λv b=>(bT (.t d' 0) σ=true∧b.has (.t d' 0)=false)∧(St.mk ((d',v)::σ.s) ((.t d' 0,b)::σ.h)).f=app (some d') ⟨v,[(.t d' 0,b)],false,[],λn=>n=.t d' 0⟩ σ.f) ⟨⟨F,hn⟩,aHB⟩
  cases op<;>first
   |exact this.elim
   | (simp only[bP]
      exact h1 _ ⟨⟨F,hn⟩,aHB⟩)
 | call d' hd f args hop g caps hg ys L hm r hout fz hfn hflat hfr =>
  subst hd;subst hop;simp only[bP,aDn];have H:evO (look σ.s) f=.fn g caps:=hg;have I:fD (conv (aA σ.h) 8 [] false) (args.map (evO (look σ.s))++caps)=some (ys,L):=hm;have O:aGt σ.h (args.map (evO (look σ.s))) []=[]:=rfl;rw[H,O];simp only[I,wX];refine⟨rfl,r,hout,fz,hfn,by simpa using hflat,?_,?_⟩
  .simp only[kT,Az,Cm];intro j Y;simp only[Ce,zL J rfl (hfr j Y),Bool.or_true]
  .simp only[Be,Ce,Ah];exact aGv
end
section
variable [Envs]
variable {P:Program}{C:Ctx}{a:Act}{w:World}{S:Nat->Prop}{ρ:Name->Option Nat}{κ:Name->Nat}
structure WF (σ:FSt):Prop where
 s:∀t,Nm (λ_=>True) (σ.s t)
 h:∀n b,σ.h n=some b->NmB (λ_=>True) b
theorem aNa {x:AV}{v:Value} (h:RC S w x v):Nm (λ_=>False) x:=by
 have F:∀(c:List AV),(∀j,j<c.length->Nm (λ_=>False) (c.getD j .junk))->∀y,y∈c->Nm (λ_=>False) y:=by
  intro c H y L;obtain⟨j,I,rfl⟩:=Cb.1 L;have:=H j I;simpa[List.getD,I] using this
 induction h with
 |v x=>exact .v _ _
 | sl k l base cap x off xs hb H ho hr hk hcap ih =>
  refine .sl _ _ _ λr J y L=>?_;obtain⟨i,hi,rfl⟩:=Cb.1 J;have e:l.getD i []=l[i]:=by simp[List.getD,hi]
  refine F _ (λj I=>?_) y L
  all_goals grind
 |ro c x off xs hx H ho hr ih=>exact .ro _ _ (F c ih)
 |fn f c vs hl hr ih=>exact .fn _ _ _ (F c ih)
 |agg c vs hl hr ih=>exact .agg _ _ (F c ih)
 |tup c vs hl hr ih=>exact .tup _ _ (F c ih)
theorem aM8 {h:Name->Option Blk}{x:AV}{v:Value} (H:RV S w ρ κ h x v):Nm (λ_=>True) x:=by
 have F:∀(c:List AV),(∀j,j<c.length->Nm (λ_=>True) (c.getD j .junk))->∀y,y∈c->Nm (λ_=>True) y:=by
  intro c J y L;obtain⟨j,I,rfl⟩:=Cb.1 L;have:=J j I;simpa[List.getD,I] using this
 induction H with
 |junk v=>exact .junk _
 |clo H=>exact(aNa H).mono λ_ h=>h.elim
 |loc n off len v hv=>exact .loc _ _ _ _ trivial
 |ptr n e c v hv=>exact .ptr _ _ _ _ trivial
 |fn f c vs hl hr ih=>exact .fn _ _ _ (F c ih)
 |agg c vs hl hr ih=>exact .agg _ _ (F c ih)
 |tup c vs hl hr ih=>exact .tup _ _ (F c ih)
theorem OK.wf {σ:FSt} (F:OK C σ a w S ρ κ):WF σ:=by
 refine⟨λt=>aM8 (F.slots t),λn b L=>?_⟩;have H:=F.hok.blk n b L;cases b with
 | var c z =>
  obtain⟨x,cs,T,fr,_,_,_,_,_,_,_,J⟩:=H;intro y O
  all_goals grind [List.mem_iff_getElem.1,aM8]
 | arr k l z =>
  obtain⟨h0,⟨_,rfl⟩|⟨x,cs,T,fr,_,_,_,_,_,_,_,J⟩⟩:=H
  .intro r I;cases I
  .intro r I y O
   all_goals grind [List.mem_iff_getElem.1,aNa]
theorem Nm.and {p q:Name->Prop}{x:AV} (F:Nm p x) (H:Off (λn=>¬q n) x):Nm (λn=>p n∧q n) x:=by
 induction F with
 |junk=>exact .junk _
 |v=>exact .v _ _
 |sl _ k l hl _=>exact .sl _ k l hl
 |ro _ c hc _=>exact .ro _ c hc
 |loc _ n off len hn=>exact .loc _ n off len ⟨hn,Dz.1 H.loc⟩
 |ptr _ n e c hn=>exact .ptr _ n e c ⟨hn,Dz.1 H.ptr⟩
 |fn _ f c hc ih=>exact .fn _ f c λx F=>ih x F (H.fn.mem x F)
 |agg _ c hc ih=>exact .agg _ c λx F=>ih x F (H.agg.mem x F)
 |tup _ c hc ih=>exact .tup _ c λx F=>ih x F (H.tup.mem x F)
theorem aDu.mem {N:Name->Prop}{c:List AV}{z:Bool} (H:aDu N (.var c z)):eD N c:=λn F=>H n F
theorem NmB.and {p q:Name->Prop}{b:Blk} (H:NmB p b) (I:aDu (λn=>¬q n) b):NmB (λn=>p n∧q n) b:=by
 cases b with
 |var c z=>exact λx F=>(H x F).and (I.mem.mem x F)
 |arr k l z=>exact H
theorem NmB.frz {p:Name->Prop}{b F:Blk} (H:frz F=frz b) (I:NmB p b):NmB p F:=by
 grind [Vs.frz,NmB,Blk]
theorem Eff.move {d:Option Nat}{op:AOp}{σ σ':FSt}{δ:Dl}{N:Name->Prop} (he:Eff P d op σ δ) (hc:rA op=true)
  (J:∀o,o∈aL op->evO σ.s o=evO σ'.s o∧Off N (evO σ.s o)) (U:Agr N σ.h σ'.h) (hb:∀n b,¬N n->σ.h n=some b->aDu N b)
  (hf:∀n,δ.nn n->iJ n σ'):Eff P d op σ' δ:=by
 cases he with
 | rd v h1 h2 h3 =>
  refine .rd v h1 (λK Y=>aNE U J (h2 K Y)) λp hp hh=>?_;have e:(λn=>¬¬N n)=N:=funext λn=>propext Dz;have:=h3 (λn=>p n∧¬N n) (λo F=>?_) (λn b O I=>?_)
  .exact this.mono λn h=>h.1
  .obtain⟨e1,e2⟩:=J o F;refine Nm.and ?_ (by rw[e];exact e2);rw[e1];exact hp o F
  .obtain⟨b',h4,h5⟩:=U.some O.2 I;refine NmB.and (NmB.frz h5.symm (hh n b' O.1 h4)) (by rw[e];exact hb n b O.2 I)
 | al d' hd v b h1 hf' O h2 h3 =>
  refine .al d' hd v b (λK Y=>aOf U ?_ ?_ ?_ J (h1 K Y)) (hf _ rfl) O h2 λN' Z=>h3 N' λo F=>by rw[(J o F).1];exact Z o F
  all_goals grind [aGw,rA,okZ]
 | call d' hd f args hop g caps hg ys L F r hout fz hfn hflat hfr =>
  subst hop;have⟨ef,of⟩:=J f (by simp[aL]);rw[hg] at of;have H:args.map (evO σ.s)=args.map (evO σ'.s):=List.map_congr_left λo F=>(J o (by simp[aL,F])).1;refine .call d' hd f args rfl g caps (by rw[←ef];exact hg) ys L ?_ r hout fz hfn hflat λj hj=>?_
  .rw[←H,←aC2 (f:=conv σ.h 8 [] false) λx I=>?_]
   .exact F
   .refine(aGn U hb 8 false x ?_).1;rcases Bf.1 I with I|I
    .grind [aL]
    .exact of.fn.mem x I
  .exact hf _ ⟨j,hj,rfl⟩
theorem Eff.new {d:Option Nat}{op:AOp}{σ:FSt}{δ:Dl} (I:Eff P d op σ δ):(∀n,δ.nn n->∃d' j,d=some d'∧n=.t d' j∧iJ n σ)∧∀n b,aA δ.nb n=some b->δ.nn n:=by
 cases I with
 |rd v h1 h2 h3=>exact⟨λn H=>H.elim,λn b F=>by simp[aA] at F⟩
 | al d' hd v b h1 hf' H h2 h3 =>
  grind [aA]
 | call d' hd f args hop g caps hg ys L hm r hout fz hfn hflat hfr =>
  refine⟨λn ⟨j,hj,e⟩=>⟨d',j,hd,e,by rw[e];exact hfr j hj⟩,λn b F=>?_⟩;rw[aAm] at F;cases n with
  |b j=>simp[xX] at F
  | t d'' j =>
   grind [xX]
theorem aL4 {N:Name->Prop}{φ:Name->Option Name} (H:∀n m,N n->φ m≠some n) (b:Blk):aDu N (rnB φ b):=by
 cases b with
 |var c z=>exact λn F=>aAI φ n (λm=>H n m F) c
 |arr k l z=>exact λn F=>rfl
theorem y7 {g:Blk->Blk}{d nB:Nat}:∀{l:List (Option Blk)}{i:Nat}{n:Name}{b:Blk},(n,b)∈sP g d nB i l->∃F,b=g F
 | [],_,_,_,h=>by simp[sP] at h
 |none::r,i,n,b,h=>y7 (l:=r) (i:=i+1) (by simpa[sP] using h)
 | some x::r,i,n,b,h=>by
  simp only[sP] at h;split at h
  .rcases Ap.1 h with h|h
   .grind
   .exact y7 h
  .exact y7 h
theorem Eff.off {d:Option Nat}{op:AOp}{σ:FSt}{δ:Dl}{N:Name->Prop} (he:Eff P d op σ δ) (hN:∀n,δ.nn n->¬N n) (Y:∀d' j,d=some d'->¬N (.t d' j)) (Z:WF σ)
  (U:∀o,o∈aL op->Off N (evO σ.s o)) (J:∀n b,¬N n->σ.h n=some b->aDu N b) :
  Off N δ.v∧(∀n b,aA δ.nb n=some b->aDu N b)∧∀n,n∈δ.L->¬N n:=by
 have I:∀o,Nm (λ_=>True) (evO σ.s o):=by
  intro o;cases o with
  |tmp t=>exact Z.s t
  | const v =>
   simp only[evO]
   cases v<;>first
    |exact .v _ _
    | (simp only[AV.ofValue]
       refine .agg _ _ λx F=>?_;obtain⟨y,_,rfl⟩:=Bq.1 F;exact .v _ _)
  |global g=>exact .junk _
  |func f=>exact .fn _ _ _ (by simp)
 cases he with
 | rd v h1 h2 h3 =>
  refine⟨?_,λn b J=>by simp[aA] at J,by simp⟩;have:=h3 (λn=>¬N n) (λo O=>(I o).of_off (U o O)) λn b H F=>?_
  .exact this.off λn H=>H
  .have e:(λn=>¬¬N n)=N:=funext λn=>propext Dz;have:=NmB.and (q:=λn=>¬N n) (Z.h n b F) (by rw[e];exact J n b H F)
   all_goals grind
 | al d' hd v b h1 hf' H h2 h3 =>
  grind [aA]
 | call d' hd f args hop g caps hg ys L O r hout fz hfn hflat hfr =>
  subst hop
  have hφ:∀n m,N n->phi [] d' hout.length m≠some n:=by
   grind [phi,Name]
  refine⟨λn H=>aKq _ n (λm=>hφ n m H) r,λn b F=>?_,λn H=>?_⟩
  .obtain⟨b',rfl⟩:=y7 (pQ _ _ _ F);exact aL4 hφ b'
  .have of:=U f (by simp[aL]);rw[hg] at of;refine aAf (λn=>¬N n) (λx F y L' hc=>?_) O n H;refine(aGn (h':=σ.h) (λ_ _=>rfl) J 8 false x ?_).2 y L' hc;rcases Bf.1 F with F|F
   .grind [aL]
   .exact of.fn.mem x F
theorem zZ (d:Option Nat) (δ:Dl) (σ:FSt) (n:Name):(app d δ σ).h n=(aA δ.nb n).or ((σ.h n).map λb=>if δ.fz=true∧n∈δ.L then frz b else b):=rfl
theorem aNY (b:Blk) (p:Prop) [Decidable p]:frz (if p then frz b else b)=frz b:=by
 split
 .cases b<;>rfl
 .rfl
theorem aII {d:Option Nat}{δ:Dl}{σ:FSt} (F:∀n b,aA δ.nb n=some b->δ.nn n):Agr δ.nn σ.h (app d δ σ).h:=by
 intro n h;rw[zZ];cases hx:aA δ.nb n with
 |some b=>exact absurd (F n b hx) h
 | none =>
  rw[Du];cases σ.h n with
  |none=>rfl
  |some b=>simp only[AU,aNY]
theorem rC {d:Option Nat}{δ:Dl}{σ:FSt}{t:Nat} (h:d≠some t):(app d δ σ).s t=σ.s t:=by
 cases d with
 |none=>rfl
 | some d =>
  grind [app,upd]
theorem qU {d:Nat}{δ:Dl}{σ:FSt}:(app (some d) δ σ).s d=δ.v:=by simp[app,upd]
theorem aCn {d:Option Nat}{δ:Dl}{σ:FSt}{o:Operand} (h:∀t,d=some t->o≠.tmp t):evO (app d δ σ).s o=evO σ.s o:=by
 grind [evO,rC,Operand]
theorem iJ.off {n:Name}{σ:FSt} (h:iJ n σ) (o:Operand):(evO σ.s o).has n=false:=by
 cases o with
 |tmp t=>exact h.2.1 t
 | const v =>
  simp only[evO]
  cases v<;>first
   |rfl
   | (simp only[AV.ofValue,AV.has]
      have:eD (λm=>m=n) (List.map (λx=>AV.v x) (Array.toList ‹_›)):=eD.of_mem λx F=>by
        grind [Off.v]
      exact this n rfl)
 |global g=>rfl
 |func f=>rfl
theorem aHc (b:Blk) (p:Prop) [Decidable p] (n:Name):(if p then frz b else b).has n=b.has n:=by
 grind [aMD,Blk,frz]
theorem aLl {U O:Option Nat}{x y:AOp}{σ:FSt}{H J:Dl} (hx:Eff P U x σ H) (hy:Eff P O y (app U H σ) J) (hs:WF σ) (fx:rA x=true) (fy:rA y=true)
  (a1:∀t,U=some t->∀o,o∈aL y->o≠.tmp t) (a2:∀t,O=some t->∀o,o∈aL x->o≠.tmp t) (a3:∀t,U=some t->O≠some t)
  (j1:∀t,U=some t->σ.s t=.junk) (j2:∀t,O=some t->σ.s t=.junk) :
  Eff P O y σ J∧Eff P U x (app O J σ) H∧app U H (app O J σ)=app O J (app U H σ):=by
 obtain⟨nx,bx⟩:=hx.new;obtain⟨ny,hc⟩:=hy.new
 have Z:∀n,H.nn n->¬J.nn n:=by
  grind
 have sx:∀o,Off H.nn (evO σ.s o):=λo n I=>by obtain⟨_,_,_,_,Y⟩:=nx n I;exact Y.off o
 have hd:∀n b,σ.h n=some b->aDu H.nn b:=λn b F m hm=>by obtain⟨_,_,_,_,Y⟩:=nx m hm;exact Y.2.2 n b F
 have hg:∀n,H.nn n->σ.h n=none:=λn I=>by obtain⟨_,_,_,_,Y⟩:=nx n I;exact Y.1.1
 have hj:=aII (d:=U) (σ:=σ) bx
 have ha:∀n,J.nn n->iJ n σ:=by
  intro n I;obtain⟨d2,i2,e2,rfl,Y⟩:=ny n I;have hq:¬H.nn (.t d2 i2):=λh=>Z _ h I;refine⟨⟨?_,Y.1.2⟩,λt=>?_,λm b F=>?_⟩
  .have:=Y.1.1;rw[zZ] at this;cases hσ:σ.h (.t d2 i2) with
   |none=>rfl
   |some b=>rw[hσ] at this;simp at this
  .by_cases ht:U=some t
   .rw[j1 t ht];rfl
   .have:=Y.2.1 t
    rwa [rC ht] at this
  .have h1:¬H.nn m:=λh=>by rw[hg m h] at F;cases F
   have h2:aA H.nb m=none:=by
    cases h:aA H.nb m with
    |none=>rfl
    |some b=>exact absurd (bx m b h) h1
   have:=Y.2.2 m (if H.fz=true∧m∈H.L then frz b else b) (by rw[zZ,h2,F];rfl)
   rwa [aHc] at this
 have hh:Eff P O y σ J:=by
  refine hy.move (N:=H.nn) fy (λo ho=>?_) hj.symm (λn b I F=>?_) ha
  .have e:=aCn (δ:=H) (σ:=σ) (λt ht=>a1 t ht o ho);exact⟨e,by rw[e];exact sx o⟩
  .rw[zZ] at F
   have h2:aA H.nb n=none:=by
    cases h:aA H.nb n with
    |none=>rfl
    |some b=>exact absurd (bx n b h) I
   rw[h2,Du] at F;cases hσ:σ.h n with
   |none=>rw[hσ] at F;cases F
   | some b0 =>
    rw[hσ] at F;obtain rfl:=Ay F;intro m hm;rw[aHc];exact hd n b0 hσ m hm
 obtain ⟨ov,ob,oL⟩:=hh.off (N:=H.nn) (λn I h=>Z n h I) (λd' j he h=>by
   obtain⟨d1,i1,e1,e2,_⟩:=nx _ h;simp only[Name.t.injEq] at e2;exact a3 d1 e1 (by rw[he,e2.1])) hs (λo _=>sx o) (λn b _ F=>hd n b F)
 have hk:=aII (d:=O) (σ:=σ) hc;have sy:∀o,Off J.nn (evO σ.s o):=λo n I=>(ha n I).off o
 have hp:Eff P U x (app O J σ) H:=by
  refine hx.move (N:=J.nn) fx (λo ho=>⟨(aCn (δ:=J) (σ:=σ) (λt ht=>a2 t ht o ho)).symm,sy o⟩) hk (λn b _ F m hm=>(ha m hm).2.2 n b F) λn I=>?_;obtain⟨d1,i1,e1,rfl,Y⟩:=nx n I;have hl:=Z _ I;refine⟨⟨?_,Y.1.2⟩,λt=>?_,λm b F=>?_⟩
  .rw[zZ,Y.1.1];cases h:aA J.nb (.t d1 i1) with
   |none=>rfl
   |some b=>exact absurd (hc _ b h) hl
  .by_cases ht:O=some t
   .subst ht;rw[qU];exact ov _ I
   .rw[rC ht];exact Y.2.1 t
  .rw[zZ] at F;cases h:aA J.nb m with
   | some b' =>
    rw[h] at F;obtain rfl:=Ay F;exact ob m _ h _ I
   | none =>
    rw[h,Du] at F;cases hσ:σ.h m with
    |none=>rw[hσ] at F;cases F
    | some b0 =>
     rw[hσ] at F;obtain rfl:=Ay F;rw[aHc];exact hd m b0 hσ _ I
 refine⟨hh,hp,?_⟩
 obtain ⟨_,_,hr⟩:=hx.off (N:=J.nn) (λn I=>Z n I) (λd' j he h=>by
   obtain⟨d1,i1,e1,e2,_⟩:=ny _ h;simp only[Name.t.injEq] at e2;exact a3 d' he (by rw[e1,e2.1])) hs (λo _=>sy o) (λn b _ F m hm=>(ha m hm).2.2 n b F)
 have e1:(app U H (app O J σ)).s=(app O J (app U H σ)).s:=by
  funext t
  by_cases h1:U=some t
  .grind [qU,rC]
  .by_cases h2:O=some t
   all_goals grind [rC,qU]
 have e2:(app U H (app O J σ)).h=(app O J (app U H σ)).h:=by
  funext n
  simp only[zZ];cases h1:aA H.nb n with
  | some b1 =>
   have I:=bx n b1 h1
   have h2:aA J.nb n=none:=by
    cases h:aA J.nb n with
    |none=>rfl
    |some b=>exact absurd (hc n b h) (Z n I)
   all_goals grind
  | none =>
   cases h2:aA J.nb n with
   | some b2 =>
    grind
   | none =>
    simp only[Du];cases σ.h n with
    |none=>rfl
    | some b =>
     grind
 all_goals grind [app]
end
section
variable [Envs]
variable {P:Program}{C:Ctx}{a:Act}{w:World}{S:Nat->Prop}{ρ:Name->Option Nat}{κ:Name->Nat}
theorem aIE {b c:Bool} (h:b≠c):b = !c:=by cases b<;>cases c<;>simp at h<;>rfl
def fB (o:aI):Bool:=rA o.op&&(wN o.op||o.dst.isSome)
def aHW:AOp:=.mv (.const (.tuple #[]))
def aCR (b:Bool) (o:aI):AOp:=if b then o.op else aHW
def EffS (P:Program) (b:Bool) (o:aI) (σ:FSt) (δ:Dl):Prop:=Eff P o.dst (aCR b o) σ δ
def runs (o:aI) (σ:FSt) (b:Bool):Prop:=
 match o.guard with
 |none=>b=true
 |some (g,want)=>(∃c,σ.s g=.v (.bool c)∧b=(c==want))∨((∃cs,σ.s g=.v (.tuple cs))∧b=false)
def yM (P:Program) (o:aI) (σ:FSt) (δ:Dl):Prop:=∃b,runs o σ b∧EffS P b o σ δ
def aC4 (d:Option Nat) (σ σ':St):Prop:=∀t,d≠some t->look σ.s t=.junk->look σ'.s t=.junk
def vcE (P:Program) (K:FSt->Prop):List aI->FSt->Prop
 | [],σ=>K σ
 | o::r,σ=>if fB o=true then ∃δ,yM P o σ δ∧vcE P K r (app o.dst δ σ)
  else ∃σl:St,σl.f=σ∧vc P (fun σ'=>vcE P K r σ'.f∧aC4 o.dst σl σ') [o] σl
theorem uZ (d:Option Nat) (x:AV) (σ:St) (h:List (Name×Blk)):aC4 d σ ⟨put d x σ.s,h⟩:=by
 intro t H F;show look (put d x σ.s) t=_
 rw[kE];cases d with
 |none=>exact F
 | some d =>
  grind [upd]
theorem aGP {d:Option Nat}{σ:St}{K:St->Prop}{op:AOp} (F:bP P d σ K op):bP P d σ (fun σ'=>K σ'∧aC4 d σ σ') op:=by
 by_cases hr:wN op=true
 .grind [aAy,uZ]
 .have H:∀{op:AOp}{d':Nat},al (evO (look σ.s)) (aA σ.h) (.t d' 0) (λv b=>(bT (.t d' 0) σ=true∧b.has (.t d' 0)=false)∧K ⟨(d',v)::σ.s,(.t d' 0,b)::σ.h⟩) op->
    al (evO (look σ.s)) (aA σ.h) (.t d' 0) (λv b=>(bT (.t d' 0) σ=true∧b.has (.t d' 0)=false)∧K ⟨(d',v)::σ.s,(.t d' 0,b)::σ.h⟩∧aC4 (some d') σ ⟨(d',v)::σ.s,(.t d' 0,b)::σ.h⟩) op:=by
   intro op d' F;obtain⟨x,b,⟨I,J⟩,L,_⟩:=yL F;exact L _ ⟨I,J,uZ (some d') _ _ _⟩
  cases op
  case box x=>cases d with
   |none=>exact F
   |some d=>exact H (op:=.box x) (d':=d) F
  case alloc z=>cases d with
   |none=>exact F
   |some d=>exact H (op:=.alloc z) (d':=d) F
  case bslice k m z ps=>cases d with
   |none=>exact F
   |some d=>exact H (op:=.bslice k m z ps) (d':=d) F
  case mk k y z n=>cases d with
   |none=>exact F
   |some d=>exact H (op:=.mk k y z n) (d':=d) F
  case call f args bor =>
   simp only[bP,aDn] at F⊢;split at F
   .split at F
    .obtain⟨I,r,U,fz,h2,J,L,Z⟩:=F;exact⟨I,r,U,fz,h2,J,L,Z,uZ _ _ _ _⟩
    .exact F
   .exact F
  all_goals try grind [bP,aC4,uZ]
  case append k y A X =>
   cases d with
   |none=>exact F
   | some d =>
    simp only[bP] at F⊢;split at F
    .rename_i on l Y _ _;refine⟨F.1,F.2,λt ht O=>?_⟩
     have e:look ((d,AV.loc (.t d 0) 0 (l.length+Y.length))::(aQ on σ).s) t=look (aQ on σ).s t:=by
      grind [look]
     show look ((d,AV.loc (.t d 0) 0 (l.length+Y.length))::(aQ on σ).s) t=_
     rw[e];cases on with
     |none=>exact O
     | some n =>
      simp only[aQ,bW];rw[nP (scr n) (by simp[scr,AV.has]),O];simp[scr,AV.has]
    .exact F
  case appendC k y A X =>
   cases d with
   |none=>exact F
   | some d =>
    simp only[bP] at F⊢;split at F
    .rename_i on l Y _ _;refine⟨F.1,F.2,λt ht O=>?_⟩
     have e:look ((d,AV.sl k (l++Y))::(aQ on σ).s) t=look (aQ on σ).s t:=by
      grind [look]
     show look ((d,AV.sl k (l++Y))::(aQ on σ).s) t=_
     rw[e];cases on with
     |none=>exact O
     | some n =>
      simp only[aQ,bW];rw[nP (scr n) (by simp[scr,AV.has]),O];simp[scr,AV.has]
    .exact F
  case bsliceC k m z ps=>cases d with
   |none=>exact F
   | some d =>
    simp only[bP] at F⊢;obtain⟨x,b,⟨I,rows,h2,J,L⟩,Z,_⟩:=yL (op:=.bslice k m z ps) F;exact Z _ ⟨I,rows,h2,J,L,uZ (some d) _ _ _⟩
  all_goals simp[wN] at hr
theorem aCs {o:aI}{σ:St}{K:St->Prop} (F:vc P K [o] σ):vc P (fun σ'=>K σ'∧aC4 o.dst σ σ') [o] σ:=by
 simp only[vc] at F⊢
 all_goals grind [aGP,lK,uZ,St]
theorem aGO {d:Option Nat}{σ:St}{K J:St->Prop} (Y:∀σ,K σ->J σ) {op:AOp} (F:bP P d σ K op):bP P d σ J op:=by
 by_cases hr:wN op=true
 .grind [aAy,aCH]
 .have H:∀{op:AOp}{d':Nat},al (evO (look σ.s)) (aA σ.h) (.t d' 0) (λv b=>(bT (.t d' 0) σ=true∧b.has (.t d' 0)=false)∧K ⟨(d',v)::σ.s,(.t d' 0,b)::σ.h⟩) op->
    al (evO (look σ.s)) (aA σ.h) (.t d' 0) (λv b=>(bT (.t d' 0) σ=true∧b.has (.t d' 0)=false)∧J ⟨(d',v)::σ.s,(.t d' 0,b)::σ.h⟩) op:=by
   intro op d' F;obtain⟨x,b,⟨L,O⟩,U,_⟩:=yL F;exact U _ ⟨L,Y _ O⟩
  cases op
  case box x=>cases d with
   |none=>exact F
   |some d=>exact H (op:=.box x) (d':=d) F
  case alloc z=>cases d with
   |none=>exact F
   |some d=>exact H (op:=.alloc z) (d':=d) F
  case bslice k m z ps=>cases d with
   |none=>exact F
   |some d=>exact H (op:=.bslice k m z ps) (d':=d) F
  case mk k y z n=>cases d with
   |none=>exact F
   |some d=>exact H (op:=.mk k y z n) (d':=d) F
  case call f args bor =>
   simp only[bP,aDn] at F⊢;split at F
   .split at F
    .obtain⟨L,r,I,fz,h2,O,U,Z⟩:=F;exact⟨L,r,I,fz,h2,O,U,Y _ Z⟩
    .exact F
   .exact F
  all_goals try grind [bP]
  case append k y A X =>
   cases d with
   |none=>exact F
   | some d =>
    grind [bP]
  case appendC k y A X =>
   cases d with
   |none=>exact F
   | some d =>
    grind [bP]
  case bsliceC k m z ps=>cases d with
   |none=>exact F
   | some d =>
    grind [bP,yL]
  all_goals simp[wN] at hr
theorem aAs {o:aI}{σ:St}{K F:St->Prop} (I:∀σ,K σ->F σ) (H:vc P K [o] σ):vc P F [o] σ:=by
 simp only[vc] at H⊢;split at H
 all_goals grind [aGO,lK]
theorem aEu {o:aI}{r:List aI}{σ:St}{K:St->Prop}:vc P K (o::r) σ↔vc P (vc P K r) [o] σ:=Iff.rfl
theorem aJM {K:St->Prop}:∀(ops:List aI) (σ:St),vc P K ops σ->vcE P (λf=>∃σ':St,σ'.f=f∧K σ') ops σ.f
 | [],σ,hv=>⟨σ,rfl,hv⟩
 | o::r,σ,hv=>by
  have Z:=aJM (K:=K) r;simp only[vcE];split
  .rename_i U;simp only[fB,Av,Cs] at U
   have run:bP P o.dst σ (vc P K r) o.op->∃δ,Eff P o.dst o.op σ.f δ∧vcE P (λf=>∃σ':St,σ'.f=f∧K σ') r (app o.dst δ σ.f):=λY=>by
    obtain⟨δ,F,σ',h2,O⟩:=aBT U.1 U.2 Y;exact⟨δ,F,by rw[←h2];exact Z σ' O⟩
   have skip:vc P K r ⟨put o.dst (.v (.tuple #[])) σ.s,σ.h⟩->∃δ,Eff P o.dst aHW σ.f δ∧vcE P (λf=>∃σ':St,σ'.f=f∧K σ') r (app o.dst δ σ.f):=λY=>by
    obtain⟨δ,F,σ',h2,O⟩:=aBT (P:=P) (d:=o.dst) (σ:=σ) (K:=vc P K r) (op:=aHW) rfl (.inl rfl) Y;exact⟨δ,F,by rw[←h2];exact Z σ' O⟩
   simp only[vc] at hv;split at hv
   .rename_i J;obtain⟨δ,F,h2⟩:=run hv;exact⟨δ,⟨true,by simp only[runs,J],F⟩,h2⟩
   .rename_i g I J;split at hv
    .rename_i b L;by_cases H:b=I
     .obtain⟨δ,F,h2⟩:=run ((lK.1 hv).1 H);exact⟨δ,⟨true,by simp only[runs,J];exact .inl ⟨b,L,by simp[H]⟩,F⟩,h2⟩
     .have hn:b = !I:=aIE H;obtain⟨δ,F,h2⟩:=skip ((lK.1 hv).2 hn);exact⟨δ,⟨false,by simp only[runs,J];exact .inl ⟨b,L,by simp[H]⟩,F⟩,h2⟩
    .rename_i cs L;obtain⟨δ,F,h2⟩:=skip hv;exact⟨δ,⟨false,by unfold runs;rw[J];exact .inr ⟨⟨cs,L⟩,rfl⟩,F⟩,h2⟩
    .exact hv.elim
  .refine⟨σ,rfl,aAs (fun σ' h=>⟨Z σ' h.1,h.2⟩) (aCs (aEu.1 hv))⟩
theorem aJN {o:aI}{σ:St}{δ:Dl} (I:Canon σ) (O:yM P o σ.f δ):vc P (fun σ'=>σ'.f=app o.dst δ σ.f) [o] σ:=by
 obtain⟨b,F,h2⟩:=O
 have skip:b=false->(⟨put o.dst (.v (.tuple #[])) σ.s,σ.h⟩:St).f=app o.dst δ σ.f:=by
  rintro rfl;exact xJ I h2
 simp only[vc];unfold runs at F;split
 .rename_i H;rw[H] at F;simp only at F;subst F;exact xJ I h2
 .rename_i g J H;rw[H] at F;rcases F with⟨c,e,rfl⟩|⟨⟨cs,e⟩,L⟩
  .simp only[show look σ.s g=_ from e]
   all_goals grind [lK.2,aCR,EffS,xJ]
  .simp only[show look σ.s g=_ from e];exact skip L
theorem aH9 {ops:Array Oper}{Q:Exit->Act->World->Prop}{K:St->Prop}{i:Nat}{o:Oper}{ao:aI} (ho:ops[i]? = some o) (hc:nG P C.nt ops o=some ao.bare) {σ:St} (J:vc P K [ao] σ) (F:OK C σ.f a w S ρ κ) :
  wpOp P ops Q i (cK C K) a w:=by
 obtain⟨h1,h2,O,h4⟩:=iI hc;have go:bP P ao.dst σ K ao.op->o.wp P a w (cK C K) Q:=λY=>wE (P:=P) h1 F O (by rw[h2];exact Y);unfold wpOp;rw[ho];simp only[vc] at J;rcases h4 with⟨L,g2⟩|⟨j,H,t,L,g2,g3⟩
 .grind [Region.wanted]
 .rw[g2] at J;simp only at J;split at J
  .rename_i b U;have Z:=yO F L g3 U;simp only[Z];by_cases I:b=H
   .simp only[I,beq_self_eq_true,Bj];exact .inl (go ((lK.1 J).1 I))
   .have:(b==H)=false:=by simpa using I
    simp only[this,AR,Bd];have hn:b = !H:=aIE I;refine⟨_,S,ρ,κ,(lK.1 J).2 hn,?_⟩;have:=F.put (x:=.v undef) (v:=undef) (.clo (.v _)) O
    all_goals grind [St.f,kE,undef]
  .rename_i cs U;have Z:=yN F L g3 U;simp only[Z,AR,Bd];refine⟨_,S,ρ,κ,J,?_⟩;have:=F.put (x:=.v undef) (v:=undef) (.clo (.v _)) O
   all_goals grind [St.f,kE,undef]
  .exact J.elim
theorem aHH {ops:Array Oper}{K:Act->World->Prop}{i:Nat} (h:wpOp P ops (λ_ _ _=>False) i K a w):∃H w',K H w':=by
 unfold wpOp at h;split at h
 .exact⟨_,_,h⟩
 .split at h
  .rcases h with h|⟨_,_,_,h⟩
   .rename_i o _ _;unfold Oper.wp at h;generalize(execOp a.eval o).run P w=r at h;cases r with
    | ok n w' =>
     cases n<;>simp only[Oper.upon] at h
     case enter f args =>
      obtain⟨e,F,fr,h,_⟩:=h [];cases e with
      |returned v=>exact⟨_,_,h⟩
      |panicked ch=>exact h.elim
      |outgrown=>obtain⟨_,_,h⟩:=h;exact h.elim
     case row row args =>
      obtain⟨v,F,h,_⟩:=h (Frame.enter P 0 #[] .normal) [];exact⟨_,_,h⟩
     all_goals exact⟨_,_,h⟩
    |halt x w'=>cases x<;>simp only[Oper.upon] at h
   .exact h.elim
  .exact⟨_,_,h⟩
end
end Go.Vs
