/- What an operation depends on: the values of its operands, and the blocks that they reach. -/
import Derived.Test.YthbnjmgjhonfbaaGreatVsM
set_option linter.all false
set_option maxHeartbeats 8000000
namespace Go.Vs
section
variable [Envs]
variable {P:Program}{C:Ctx}{a:Act}{w:World}{S:Nat→Prop}{ρ:Name→Option Nat}{κ:Name→Nat}
theorem bR {σ:St}{K:St→Prop}{o:Oper}{Q:Exit→Act→World→Prop} (hok:OK C σ.f a w S ρ κ) (hd:∀d',o.dst=some d'→d'<C.nt) {s:Sem Value}
  (ho:execOp a.eval o=(do pure (Next.value (←s)))) (h:Ans P S w ρ κ σ.f.h (fun v=>K ⟨put o.dst v σ.s,σ.h⟩) s):o.wp P a w (dF C K) Q:=by
 obtain⟨x,v,hK,hrun,hx⟩:=h;exact uZ hok hd ⟨x,v,hK,by rw[ho];exact aGt hrun,hx⟩
theorem xX {σ:St}{K:St→Prop}{o:Oper}{d:Nat}{Q:Exit→Act→World→Prop} (hdst:o.dst=some d) (hd:d<C.nt) {s:Sem Value}
  (ho:execOp a.eval o=(do pure (Next.value (←s))))
  (h:Made P C σ.f a w S (.t d 0) (fun v b=>(dE (.t d 0) σ=true∧b.has (.t d 0)=false)∧K ⟨(d,v)::σ.s,(.t d 0,b)::σ.h⟩) s):o.wp P a w (dF C K) Q:=by
 obtain⟨x,b,v,w',⟨⟨h1,h2⟩,hK⟩,hrun,hok⟩:=h;obtain⟨ρ',κ',hok',hx⟩:=hok (eQ h1) h2
 have e:(St.mk σ.s ((.t d 0,b)::σ.h)).f=⟨σ.f.s,hput σ.f.h (.t d 0) (some b)⟩:=by
  simp only[St.f,FSt.mk.injEq,true_and]
  funext m;simp only[aB,hput]
 unfold Oper.wp;rw[ho,aGt hrun];show dF C K (a.put o.dst v) w'
 rw[←e] at hok';rw[hdst];exact dF.put (σ:=⟨σ.s,(.t d 0,b)::σ.h⟩) hok' (by rw[e];exact hx) (fun d' h=>by rw[←Option.some.inj h];exact hd) hK
theorem bare_eq {op op':AOp} (h:op.bare0=op'):(∃f args bor,op=.call f args bor∧op'=.call f args [])∨((∀f args bor,op≠.call f args bor)∧op=op'):=by
 cases op<;>simp only[AOp.bare0] at h<;>first
  |exact .inr ⟨by simp,h⟩
  |exact .inl ⟨_,_,_,rfl,h.symm⟩
theorem aER {T:TypeId}{g:Bool}{k:Nat} (h:vG P T=some (g,k)):jA P T=some g:=by
 unfold vG at h;split at h
 ·rename_i n h1 h2;simp only[Option.some.injEq,Prod.mk.injEq] at h;rw[h1,h.1]
 ·rename_i n h1 h2;simp only[Option.some.injEq,Prod.mk.injEq] at h;rw[h1,h.1]
 ·cases h
theorem aGe {α:Type}{x:Array α}{p q:α} (h:x.toList=[p,q]):x=#[p,q]:=by
 apply Array.ext';simpa using h
theorem arr1 {α:Type}{x:Array α}{p:α} (h:x.toList=[p]):x=#[p]:=by
 apply Array.ext';simpa using h
theorem aEv {o:Oper}{c:Call}{b:Builtin} (ho:o.op=.call c) (hc:c.callee=.builtin b) :
  execOp a.eval o=builtin b c.argTypes o.type (c.args.map fun|.const _=>true|_=>false) (c.args.map a.eval):=by
 simp only[execOp,ho,resolve,hc];rfl
theorem oK {σ:St}{K:St→Prop}{o:Oper}{op:AOp}{Q:Exit→Act→World→Prop} (hc:comp P o.op=some op.bare0) (hok:OK C σ.f a w S ρ κ) (hd:∀d',o.dst=some d'→d'<C.nt)
  (hv:bK P o.dst σ K op):o.wp P a w (dF C K) Q:=by
 generalize hop:o.op=oop at hc;cases oop
 case move x =>
  simp only[comp,Option.some.injEq] at hc;rcases bare_eq hc.symm with⟨f,args,bor,rfl,h⟩|⟨_,rfl⟩
  ·cases h
  ·exact uZ hok hd ⟨_,_,hv,by simp[execOp,hop],hok.ev x⟩
 case assign x =>
  simp only[comp,Option.some.injEq] at hc;rcases bare_eq hc.symm with⟨f,args,bor,rfl,h⟩|⟨_,rfl⟩
  ·cases h
  ·exact uZ hok hd ⟨_,_,hv,by simp[execOp,hop],hok.ev x⟩
 case pick c x y =>
  simp only[comp,Option.some.injEq] at hc;rcases bare_eq hc.symm with⟨f,args,bor,rfl,h⟩|⟨_,rfl⟩
  ·cases h
  ·have hcv:=hok.ev c;simp only[bK,rd] at hv;split at hv
   ·rename_i t ht;rw[show evO σ.f.s c=_ from ht] at hcv;have:=dY hcv;cases t
    ·exact uZ hok hd ⟨_,_,hv.2 rfl,by simp[execOp,hop,this,asBool],hok.ev y⟩
    ·exact uZ hok hd ⟨_,_,hv.1 rfl,by simp[execOp,hop,this,asBool],hok.ev x⟩
   ·exact hv.elim
 case alloc t =>
  simp only[comp] at hc;cases hz:zOf P t with
  |none=>rw[hz] at hc;cases hc
  | some z =>
   rw[hz] at hc;simp only[Option.map_some,Option.some.injEq] at hc;rcases bare_eq hc.symm with⟨f,args,bor,rfl,h⟩|⟨_,rfl⟩
   ·cases h
   ·simp only[bK] at hv;split at hv
    ·rename_i d hdst;exact xX hdst (hd d hdst) (by simp only[execOp,hop]) (aJT hok hz hv)
    ·exact hv.elim
 case box t x =>
  simp only[comp,Option.some.injEq] at hc;rcases bare_eq hc.symm with⟨f,args,bor,rfl,h⟩|⟨_,rfl⟩
  ·cases h
  ·simp only[bK] at hv;split at hv
   ·rename_i d hdst;exact xX hdst (hd d hdst) (by simp only[execOp,hop]) (aMo (T:=t) hok hv)
   ·exact hv.elim
 case build t ps =>
  simp only[comp] at hc;split at hc
  ·rename_i fs z hu hz;split at hc
   ·rename_i hall;cases hp:bpS P fs ps.toList with
    |none=>rw[hp] at hc;cases hc
    | some rp =>
     rw[hp] at hc;simp only[Option.map_some,Option.some.injEq] at hc;rcases bare_eq hc.symm with⟨f,args,bor,rfl,h⟩|⟨_,rfl⟩
     ·cases h
     ·exact bR hok hd (by simp only[execOp,hop]) (aAN hok hu hz hall hp hv)
   ·cases hc
  ·rename_i m e z hu hz;cases hn:kE P e with
   |none=>rw[hn] at hc;cases hc
   | some n =>
    rw[hn] at hc;simp only[Option.map_some,Option.some.injEq] at hc;rcases bare_eq hc.symm with⟨f,args,bor,rfl,h⟩|⟨_,rfl⟩
    ·cases h
    ·exact bR hok hd (by simp only[execOp,hop]) (aBq hok hu hz hn hv)
  ·cases hc
 case buildSlice t m ps =>
  simp only[comp] at hc;split at hc
  ·rename_i e hu;split at hc
   ·rename_i k z hk hz;simp only[Option.some.injEq] at hc;rcases bare_eq hc.symm with⟨f,args,bor,rfl,h⟩|⟨_,rfl⟩
    ·cases h
    ·simp only[bK] at hv;split at hv
     ·rename_i d hdst;refine xX (σ:=σ) (S:=S) (K:=K) hdst (hd d hdst) (s:=Instr.buildSlice t m (ps.map fun(i,x)=>(i,a.eval x))) (by simp only[execOp,hop]) ?_;have:=aH2 hok hu hk hz hv
      have e1:(ps.toList.map fun p=>(p.1,a.eval p.2)).toArray=ps.map fun(i,x)=>(i,a.eval x):=by
       apply Array.ext';simp
      rw[e1] at this;exact this
     ·exact hv.elim
   ·cases hc
  ·cases hc
 case load t x =>
  simp only[comp] at hc;cases hl:vG P t with
  |none=>rw[hl] at hc;cases hc
  | some p =>
   rw[hl] at hc;simp only[Option.map_some,Option.some.injEq] at hc;rcases bare_eq hc.symm with⟨f,args,bor,rfl,h⟩|⟨_,rfl⟩
   ·cases h
   ·exact bR hok hd (by simp only[execOp,hop]) (aGz hok hl hv)
 case store t A X =>
  simp only[comp] at hc;cases hl:kE P t with
  |none=>rw[hl] at hc;cases hc
  | some k =>
   rw[hl] at hc;simp only[Option.map_some,Option.some.injEq] at hc;rcases bare_eq hc.symm with⟨f,args,bor,rfl,h⟩|⟨_,rfl⟩
   ·cases h
   ·obtain⟨hdn,hv⟩:=hv
    have:=aH3 hok (A:=A) (X:=X) hl (K:=fun h'=>∃l,aB l=h'∧K ⟨σ.s,l⟩) (by
      simp only[wrS,St.f];split at hv
      · rename_i n e c hA
        rw[hA];split at hv
        · rename_i b cs hb hcs
          simp only[hb,hcs];exact⟨hv.1,_,vL _ _ _,hv.2⟩
        · exact hv.elim
      · exact hv.elim)
    obtain⟨h',w',⟨l,rfl,hK⟩,hrun,hok'⟩:=this;unfold Oper.wp;have hr:(execOp a.eval o).run P w=.ok .skip w':=by simp[execOp,hop,hrun]
    rw[hr];simp only[Oper.upon,hdn,Act.put];exact⟨⟨σ.s,l⟩,S,ρ,κ,hK,hok'⟩
 case nilCheck x =>
  simp only[comp,Option.some.injEq] at hc;rcases bare_eq hc.symm with⟨f,args,bor,rfl,h⟩|⟨_,rfl⟩
  ·cases h
  ·exact uZ hok hd (aKl hok hop hv)
 case binOp op t x y yt =>
  simp only[comp] at hc;split at hc
  ·simp only[Option.some.injEq] at hc;rcases bare_eq hc.symm with⟨f,args,bor,rfl,h⟩|⟨_,rfl⟩
   ·cases h
   ·exact bR hok hd (by simp only[execOp,hop]) (aLN (t:=t) hok hv)
  ·simp only[Option.some.injEq] at hc;rcases bare_eq hc.symm with⟨f,args,bor,rfl,h⟩|⟨_,rfl⟩
   ·cases h
   ·exact bR hok hd (by simp only[execOp,hop]) (aKr (t:=t) hok hv)
  ·rename_i hu;simp only[Option.some.injEq] at hc;rcases bare_eq hc.symm with⟨f,args,bor,rfl,h⟩|⟨_,rfl⟩
   ·cases h
   ·exact bR hok hd (by simp only[execOp,hop]) (aKs hok hu hv)
  ·rename_i hu;split at hc
   ·rename_i ks hks;split at hc
    ·rename_i hgg;split at hc
     ·simp only[Option.some.injEq] at hc;rcases bare_eq hc.symm with⟨f,args,bor,rfl,h⟩|⟨_,rfl⟩
      ·cases h
      ·exact bR hok hd (by simp only[execOp,hop]) (aIG hok (.inl ⟨rfl,rfl⟩) hks hgg.1 hgg.2 hv)
     ·simp only[Option.some.injEq] at hc;rcases bare_eq hc.symm with⟨f,args,bor,rfl,h⟩|⟨_,rfl⟩
      ·cases h
      ·exact bR hok hd (by simp only[execOp,hop]) (aIG hok (.inr ⟨rfl,rfl⟩) hks hgg.1 hgg.2 hv)
     ·cases hc
    ·cases hc
   ·cases hc
  ·cases hc
 case unOp op t x =>
  simp only[comp,Option.some.injEq] at hc;rcases bare_eq hc.symm with⟨f,args,bor,rfl,h⟩|⟨_,rfl⟩
  ·cases h
  ·exact bR hok hd (by simp only[execOp,hop]) (rd_un hok hv)
 case convert s d x =>
  simp only[comp] at hc;split at hc
  ·rename_i h1 h2;simp only[Option.some.injEq] at hc;rcases bare_eq hc.symm with⟨f,args,bor,rfl,h⟩|⟨_,rfl⟩
   ·cases h
   ·exact bR hok hd (by simp only[execOp,hop]) (aKq hok h1 h2 hv)
  ·rename_i e h1 h2;split at hc
   ·rename_i h3;simp only[Option.some.injEq] at hc;rcases bare_eq hc.symm with⟨f,args,bor,rfl,h⟩|⟨_,rfl⟩
    ·cases h
    ·exact bR hok hd (by simp only[execOp,hop]) (aLO hok h1 h3 h2 hv)
   ·cases hc
  ·cases hc
 case makeFunc fn first caps =>
  cases fn
  case func g =>
   simp only[comp] at hc;split at hc
   ·rename_i hsz;simp only[Option.some.injEq] at hc;rcases bare_eq hc.symm with⟨f,args,bor,rfl,h⟩|⟨_,rfl⟩
    ·cases h
    ·have hf0:first=#[]:=Array.eq_empty_of_size_eq_zero hsz
     have:=aKm (P:=P) (w:=w) (K:=fun v=>K ⟨put o.dst v σ.s,σ.h⟩) hok hv;refine bR hok hd (s:=Instr.makeFunc (.func g) #[] (caps.map a.eval)) (by simp only[execOp,hop,hf0,List.map_toArray,List.map_nil]) ?_;simpa using this
   ·cases hc
  all_goals simp[comp] at hc
 case makeSlice t l c =>
  simp only[comp] at hc;split at hc
  ·rename_i hlc;obtain rfl:=aIv hlc;split at hc
   ·rename_i e hu;split at hc
    ·rename_i i hi;split at hc
     ·rename_i z hz;simp only[Option.some.injEq] at hc;rcases bare_eq hc.symm with⟨f,args,bor,rfl,h⟩|⟨_,rfl⟩
      ·cases h
      ·simp only[bK] at hv;split at hv
       ·rename_i d hdst;exact xX hdst (hd d hdst) (by simp only[execOp,hop]) (al_mk hok hu hi hz hv)
       ·exact hv.elim
     ·cases hc
    ·cases hc
   ·cases hc
  ·cases hc
 case slice t x lo hi mx =>
  cases mx
  case none =>
   simp only[comp] at hc;split at hc
   ·rename_i e hu;cases hk:kE P e with
    |none=>rw[hk] at hc;cases hc
    | some k =>
     rw[hk] at hc;simp only[Option.map_some,Option.some.injEq] at hc;rcases bare_eq hc.symm with⟨f,args,bor,rfl,h⟩|⟨_,rfl⟩
     ·cases h
     ·exact bR hok hd (by simp only[execOp,hop];rfl) (aLL hok hu hk hv)
   ·rename_i hu;simp only[Option.some.injEq] at hc;rcases bare_eq hc.symm with⟨f,args,bor,rfl,h⟩|⟨_,rfl⟩
    ·cases h
    ·exact bR hok hd (by simp only[execOp,hop];rfl) (aKk hok hu hv)
   ·cases hc
  case some=>simp[comp] at hc
 case fieldAddr s x i =>
  simp only[comp] at hc;split at hc
  ·rename_i f hf;split at hc
   ·rename_i n hn;simp only[Option.some.injEq] at hc;rcases bare_eq hc.symm with⟨f,args,bor,rfl,h⟩|⟨_,rfl⟩
    ·cases h
    ·exact bR hok hd (by simp only[execOp,hop]) (aDQ hok hf hn (by omega) hv)
   ·cases hc
  ·cases hc
 case field s x i =>
  simp only[comp] at hc;split at hc
  ·rename_i f hf;cases hl:vG P f.type with
   |none=>rw[hl] at hc;cases hc
   | some p =>
    obtain⟨g,n⟩:=p;rw[hl] at hc;simp only[Option.bind_some] at hc;split at hc
    ·rename_i hs;simp only[Option.some.injEq] at hc;rcases bare_eq hc.symm with⟨f,args,bor,rfl,h⟩|⟨_,rfl⟩
     ·cases h
     ·have hg:=aER hl;exact bR hok hd (by simp only[execOp,hop]) (aIF hok hf hs hg (fun h=>aAl (h ▸ hl)) hv)
    ·cases hc
  ·cases hc
 case indexAddr t x i =>
  simp only[comp] at hc;split at hc
  ·rename_i e hu;cases hk:kE P e with
   |none=>rw[hk] at hc;cases hc
   | some k =>
    rw[hk] at hc;simp only[Option.map_some,Option.some.injEq] at hc;rcases bare_eq hc.symm with⟨f,args,bor,rfl,h⟩|⟨_,rfl⟩
    ·cases h
    ·exact bR hok hd (by simp only[execOp,hop]) (aIE hok hu hk hv)
  ·rename_i n e hu;cases hk:kE P e with
   |none=>rw[hk] at hc;cases hc
   | some k =>
    rw[hk] at hc;simp only[Option.map_some,Option.some.injEq] at hc;rcases bare_eq hc.symm with⟨f,args,bor,rfl,h⟩|⟨_,rfl⟩
    ·cases h
    ·exact bR hok hd (by simp only[execOp,hop]) (aHq hok hu hk hv)
  ·cases hc
 case index t x i =>
  simp only[comp] at hc;split at hc
  ·rename_i hu;simp only[Option.some.injEq] at hc;rcases bare_eq hc.symm with⟨f,args,bor,rfl,h⟩|⟨_,rfl⟩
   ·cases h
   ·exact bR hok hd (by simp only[execOp,hop]) (aHp hok hu hv)
  ·rename_i n e hu;cases hl:vG P e with
   |none=>rw[hl] at hc;cases hc
   | some p =>
    obtain⟨g,k⟩:=p;rw[hl] at hc;simp only[Option.bind_some] at hc;split at hc
    ·rename_i hs;simp only[Option.some.injEq] at hc;rcases bare_eq hc.symm with⟨f,args,bor,rfl,h⟩|⟨_,rfl⟩
     ·cases h
     ·have hg:=aER hl;exact bR hok hd (by simp only[execOp,hop]) (aHr hok hu hs hg (fun h=>aAl (h ▸ hl)) hv)
    ·cases hc
  ·cases hc
 case extract x i =>
  simp only[comp,Option.some.injEq] at hc;rcases bare_eq hc.symm with⟨f,args,bor,rfl,h⟩|⟨_,rfl⟩
  ·cases h
  ·exact bR hok hd (by simp only[execOp,hop]) (aFH hok hv)
 case call c =>
  simp only[comp] at hc;split at hc
  ·rename_i b hcal;have hb:=aEv (a:=a) hop hcal;unfold aBk at hc;split at hc
   ·rename_i t x hts hxs;have e1:=arr1 hts;have e2:=arr1 hxs;split at hc
    ·rename_i e hu;simp only[Option.some.injEq] at hc;rcases bare_eq hc.symm with⟨f,args,bor,rfl,h⟩|⟨_,rfl⟩
     ·cases h
     ·exact bR hok hd (s:=Builtin.len_ #[t] o.type #[a.eval x]) (by rw[hb,e1,e2];simp only[builtin,List.map_toArray,List.map_cons,List.map_nil]) (aLM hok hu hv)
    ·rename_i hu;simp only[Option.some.injEq] at hc;rcases bare_eq hc.symm with⟨f,args,bor,rfl,h⟩|⟨_,rfl⟩
     ·cases h
     ·exact bR hok hd (s:=Builtin.len_ #[t] o.type #[a.eval x]) (by rw[hb,e1,e2];simp only[builtin,List.map_toArray,List.map_cons,List.map_nil]) (aKn hok hu hv)
    ·rename_i n e hu;simp only[Option.some.injEq] at hc;rcases bare_eq hc.symm with⟨f,args,bor,rfl,h⟩|⟨_,rfl⟩
     ·cases h
     ·exact bR hok hd (s:=Builtin.len_ #[t] o.type #[a.eval x]) (by rw[hb,e1,e2];simp only[builtin,List.map_toArray,List.map_cons,List.map_nil]) (aKo _ hu hv)
    ·cases hc
   ·rename_i t t2 A X hts hxs;have e1:=aGe hts;have e2:=aGe hxs;split at hc
    ·rename_i e e2' hu hu2;split at hc
     ·rename_i i hi;split at hc
      ·rename_i z hz;split at hc
       ·rename_i hzs;simp only[Option.some.injEq] at hc;rcases bare_eq hc.symm with⟨f,args,bor,rfl,h⟩|⟨_,rfl⟩
        ·cases h
        ·simp only[bK] at hv;split at hv
         ·rename_i d hdst;split at hv
          ·rename_i on l l' hbo hro;obtain⟨⟨hf,h1,h2⟩,hK⟩:=hv
           have hwr:=aHd (P:=P) (ty:=o.type) hok (K:=fun σ' x=>∃σl:St,σl.f=σ'∧K ⟨(d,x)::σl.s,σl.h⟩) hu hu2 hi hz hzs (A:=A) (X:=X) (d:=.t d 0) (fun on' l2 hbo'=>by
             simp only[St.f] at hbo';rw[hbo] at hbo';simp only[Option.some.injEq,Prod.mk.injEq] at hbo';obtain⟨rfl,rfl⟩:=hbo';have:=eQ hf;rw[aEZ] at this;exact this) (by
             simp only[wrA,St.f,hbo,hro];refine⟨⟨h1,h2⟩,⟨(aQ on σ).s,(.t d 0,.arr i.size (l++l') false)::(aQ on σ).h⟩,?_,hK⟩;have hkf:=aEZ on σ;have k1:look (aQ on σ).s=(aBd on ⟨look σ.s,aB σ.h⟩).s:=congrArg FSt.s hkf;have k2:aB (aQ on σ).h=(aBd on ⟨look σ.s,aB σ.h⟩).h:=congrArg FSt.h hkf;simp only[FSt.mk.injEq];refine⟨k1,?_⟩
             funext m
             simp only[aB,hput,←k2])
           obtain⟨σ',x,v,w',ρ',κ',⟨σl,rfl,hK'⟩,hrun,hok',hx⟩:=hwr;unfold Oper.wp
           have hr:(execOp a.eval o).run P w=.ok (.value v) w':=by
            rw[hb,e1,e2];simp only[builtin,List.map_toArray,List.map_cons,List.map_nil];exact aGt hrun
           rw[hr];simp only[Oper.upon,hdst];exact dF.put hok' hx (d:=some d) (fun d' h=>by rw[←Option.some.inj h];exact hd d hdst) hK'
          ·exact hv.elim
         ·exact hv.elim
       ·cases hc
      ·cases hc
     ·cases hc
    ·cases hc
   ·rename_i t t2 x y hts hxs;have e1:=aGe hts;have e2:=aGe hxs;simp only[Option.some.injEq] at hc;rcases bare_eq hc.symm with⟨f,args,bor,rfl,h⟩|⟨_,rfl⟩
    ·cases h
    ·exact bR hok hd (s:=Builtin.max_ #[t,t2] o.type #[a.eval x,a.eval y]) (by rw[hb,e1,e2];simp only[builtin,List.map_toArray,List.map_cons,List.map_nil]) (aLt (mx:=true) (t:=#[t,t2]) (T:=o.type) hok hv)
   ·rename_i t t2 x y hts hxs;have e1:=aGe hts;have e2:=aGe hxs;simp only[Option.some.injEq] at hc;rcases bare_eq hc.symm with⟨f,args,bor,rfl,h⟩|⟨_,rfl⟩
    ·cases h
    ·exact bR hok hd (s:=Builtin.min_ #[t,t2] o.type #[a.eval x,a.eval y]) (by rw[hb,e1,e2];simp only[builtin,List.map_toArray,List.map_cons,List.map_nil]) (aLt (mx:=false) (t:=#[t,t2]) (T:=o.type) hok hv)
   ·rename_i t x hts hxs;have e1:=arr1 hts;have e2:=arr1 hxs;split at hc
    ·rename_i e hu;split at hc
     ·rename_i i hi;split at hc
      ·rename_i z hz;simp only[Option.some.injEq] at hc;rcases bare_eq hc.symm with⟨f,args,bor,rfl,h⟩|⟨_,rfl⟩
       ·cases h
       ·have hwr:=aLE (P:=P) (ty:=o.type) hok hu hi hz (X:=x) (K:=fun h'=>∃l,aB l=h'∧K ⟨Vs.put o.dst (.v (.tuple #[])) σ.s,l⟩) (by
          simp only[wrC,St.f];simp only[bK] at hv;split at hv
          · rename_i n off len hA
            rw[hA];split at hv
            · rename_i k' l fz hbk
              simp only[hbk];exact⟨hv.1,_,vL _ _ _,hv.2⟩
            · exact hv.elim
          · exact hv.elim)
        obtain⟨h',w',⟨l,rfl,hK⟩,hrun,hok'⟩:=hwr;unfold Oper.wp
        have hr:(execOp a.eval o).run P w=.ok (.value (.tuple #[])) w':=by
         rw[hb,e1,e2];simp only[builtin,List.map_toArray,List.map_cons,List.map_nil];exact aGt hrun
        rw[hr];exact dF.put (σ:=⟨σ.s,l⟩) hok' (.clo (.v _)) hd hK
      ·cases hc
     ·cases hc
    ·cases hc
   ·cases hc
  ·rename_i f hcal;split at hc
   ·rename_i hix;split at hc
    ·rename_i x y hxy;simp only[Option.some.injEq] at hc;rcases bare_eq hc.symm with⟨f',args,bor,rfl,h⟩|⟨_,rfl⟩
     ·cases h
     ·exact uZ hok hd (aKp hok hop hcal (aGe hxy) hix hv)
    ·cases hc
   ·simp only[Option.some.injEq] at hc;rcases bare_eq hc.symm with⟨f',args,bor,rfl,h⟩|⟨hn,h⟩
    ·simp only[AOp.call.injEq] at h;obtain⟨rfl,rfl,_⟩:=h;exact aCY hok hd hop hcal hv
    ·exact absurd h (hn _ _ _)
  ·rename_i f _ hcal;simp only[Option.some.injEq] at hc;rcases bare_eq hc.symm with⟨f',args,bor,rfl,h⟩|⟨hn,h⟩
   ·simp only[AOp.call.injEq] at h;obtain⟨rfl,rfl,_⟩:=h;exact aCY hok hd hop hcal hv
   ·exact absurd h (hn _ _ _)
  ·cases hc
 all_goals simp[comp] at hc
theorem OK.close {σ:FSt} (hok:OK C σ a w S ρ κ) {n:Name}{k d:Nat}{rows:List (List AV)}{z:Bool} (hb:σ.h n=some (.arr k rows z)) (hd:σ.s d=.loc n 0 rows.length) :
  OK C ⟨upd σ.s (some d) (.sl k rows),fun m=>if m=n then none else σ.h m⟩ a w (fun b=>S b∨ρ n=some b) ρ κ:=by
 have hS:∀b,S b→S b∨ρ n=some b:=fun b h=>.inl h
 have hn:∀m,iN ρ ρ κ κ σ.h (fun m=>if m=n then none else σ.h m) m:=by
  intro m b' hb';simp only at hb';split at hb'
  ·cases hb'
  ·exact⟨rfl,rfl,b',hb',b'.same_refl⟩
 have hsome:∀m,((fun m=>if m=n then none else σ.h m) m).isSome→m≠n∧(σ.h m).isSome:=by
  intro m hm;simp only at hm;split at hm
  ·cases hm
  ·exact⟨by assumption,hm⟩
 have hv:=hok.slots d;rw[hd] at hv
 have hc:=(uP hok.hok hS (E:=[]) (ρ':=ρ) (κ':=κ) (h':=σ.h) (by simp) 8 true (.loc n 0 rows.length) (.sl k ((rows.drop 0).take rows.length)) [n] _ (by simp[conv,kG,hb])
   (fun m hm y hy=>by rw[List.mem_singleton.1 hm] at hy;exact .inr hy) hv).2.1 rfl
 rw[List.drop_zero,List.take_length] at hc
 refine ⟨hok.nt,hok.defers,fun t=>?_,⟨fun m b' hb'=>?_,fun m m' y h1 h2 h3 h4=>hok.hok.inj m m' y (hsome m h1).2 (hsome m' h2).2 h3 h4,fun b hb'=>?_,hok.hok.env.mono hS fun _ _=>rfl⟩,hok.size,hok.old,
   fun m y h1 h2=>hok.mine m y (hsome m h1).2 h2,fun b h=>.inl (hok.S0 b h),fun b h=>?_,hok.out,fun j b' hb'=>?_⟩
 ·simp only[upd];split
  ·subst_vars;exact .clo hc
  ·exact(hok.slots t).mono hS (fun _ _=>rfl) fun m _=>hn m
 ·simp only at hb';split at hb'
  ·cases hb'
  ·rename_i hmn;refine(hok.hok.blk m b' hb').mono hS (fun x hx h=>?_) (fun _ _=>rfl) (fun _ _=>rfl) rfl rfl fun m' _=>hn m';rcases h with h|h
   ·exact h
   ·exact absurd (hok.hok.inj m n x (by simp[hb']) (by simp[hb]) hx h) hmn
 ·rcases hb' with h|h
  ·exact hok.hok.dom b h
  ·exact hok.hok.lt (n:=n) (by simp[hb]) h
 ·rcases h with h|h
  ·exact hok.Snew b h
  ·exact .inr (hok.mine n b (by simp[hb]) h)
 ·simp only at hb';split at hb'
  ·cases hb'
  ·exact hok.keep j b' hb'
theorem aCv {σ:St}{K:St→Prop}{n:Name}{k d:Nat}{rows:List (List AV)}{z:Bool}{s:List (Nat×AV)}{h:List (Name×Blk)} (hσ:σ=⟨(d,.loc n 0 rows.length)::s,(n,.arr k rows z)::h⟩) (hn:aB h n=none)
  (hK:K ⟨(d,.sl k rows)::s,h⟩) (hok:OK C σ.f a w S ρ κ):dF C K a w:=by
 subst hσ;have:=hok.close (n:=n) (k:=k) (d:=d) (rows:=rows) (z:=z) (by simp[St.f,aB]) (by simp[St.f,look]);refine⟨⟨(d,.sl k rows)::s,h⟩,fun b=>S b∨ρ n=some b,ρ,κ,hK,?_⟩
 have e1:(⟨upd (St.f ⟨(d,.loc n 0 rows.length)::s,(n,.arr k rows z)::h⟩).s (some d) (.sl k rows),fun m=>if m=n then none else(St.f ⟨(d,.loc n 0 rows.length)::s,(n,.arr k rows z)::h⟩).h m⟩:FSt)=(⟨(d,.sl k rows)::s,h⟩:St).f:=by
  simp only[St.f,FSt.mk.injEq];refine⟨funext fun t=>?_,funext fun m=>?_⟩
  ·simp only[upd,look];split<;>rfl
  ·simp only[aB];split
   ·subst_vars;exact hn.symm
   ·rfl
 rw[e1] at this;exact this
theorem xI {n:Name}{σ:St} (h:dE n σ=true):aB σ.h n=none:=(eQ h).1.1
theorem uY {σ:St}{K:St→Prop}{o:Oper}{op:AOp}{Q:Exit→Act→World→Prop} (hc:comp P o.op=some op.bare) (hok:OK C σ.f a w S ρ κ) (hd:∀d',o.dst=some d'→d'<C.nt)
  (hv:bK P o.dst σ K op):o.wp P a w (dF C K) Q:=by
 by_cases h1:∃k y A X,op=.appendC k y A X
 ·obtain⟨k,y,A,X,rfl⟩:=h1;cases hds:o.dst with
  |none=>rw[hds] at hv;exact hv.elim
  | some d =>
   simp only[bK,hds] at hv;split at hv
   ·rename_i on l l' hA hX;obtain⟨⟨hf,hsz⟩,hK⟩:=hv
    refine Oper.wp_mono (fun a' w' ⟨σ',S',ρ',κ',hσ,hok'⟩=>?_) (oK (P:=P) (op:=.append k y A X) (K:=fun σ'=>σ'=⟨(d,.loc (.t d 0) 0 (l.length+l'.length))::(aQ on σ).s,(.t d 0,.arr k (l++l') false)::(aQ on σ).h⟩) hc hok hd (by
      simp only[bK,hds,hA,hX];exact⟨⟨hf,hsz⟩,trivial⟩))
    exact aCv (by rw[hσ,List.length_append]) (xI hf) hK hok'
   ·exact hv.elim
 ·by_cases h2:∃k m z ps,op=.bsliceC k m z ps
  ·obtain⟨k,m,z,ps,rfl⟩:=h2;cases hds:o.dst with
   |none=>rw[hds] at hv;exact hv.elim
   | some d =>
    simp only[bK,hds] at hv
    refine Oper.wp_mono (fun a' w' ⟨σ',S',ρ',κ',⟨rows,hσ,hf,hK⟩,hok'⟩=>?_) (oK (P:=P) (op:=.bslice k m z ps) (K:=fun σ'=>∃rows,σ'=⟨(d,.loc (.t d 0) 0 rows.length)::σ.s,(.t d 0,.arr k rows false)::σ.h⟩∧dE (.t d 0) σ=true∧K ⟨(d,.sl k rows)::σ.s,σ.h⟩) hc hok hd (by
      simp only[bK,hds]
      have:∀{K1 K2:AV→Blk→Prop}{op:AOp},(∀v b,K1 v b→K2 v b)→al (evO (look σ.s)) (aB σ.h) (.t d 0) K1 op→al (evO (look σ.s)) (aB σ.h) (.t d 0) K2 op:=by
        intro K1 K2 op hKK hk
        have lay:∀(ps:List (Nat×Nat×Operand)) (cs:List AV) {L1 L2:List AV→Prop},(∀c,L1 c→L2 c)→layAll (evO (look σ.s)) (aB σ.h) cs ps L1→layAll (evO (look σ.s)) (aB σ.h) cs ps L2:=by
          intro ps
          induction ps with
          |nil=>intro cs L1 L2 hh hk;exact hh _ hk
          | cons p r ih =>
            intro cs L1 L2 hh hk;obtain⟨o,n,x⟩:=p;simp only[layAll] at hk⊢;split at hk
            · exact⟨hk.1,ih _ hh hk.2⟩
            · exact hk
        cases op<;>simp only[al] at hk⊢<;> try exact hk
        · split at hk
          · exact hKK _ _ hk
          · exact hk
        · exact⟨hk.1,hKK _ _ hk.2⟩
        · exact⟨hk.1,lay _ _ (fun c hc=>⟨hc.1,hKK _ _ hc.2⟩) hk.2⟩
        · split at hk
          · exact⟨hk.1,hKK _ _ hk.2⟩
          · exact hk
      refine this (fun v b hvb=>?_) hv;obtain⟨h1,rows,rfl,rfl,hK⟩:=hvb;exact⟨h1,rows,rfl,h1.1,hK⟩))
    exact aCv hσ (xI hf) hK hok'
  ·by_cases h3:∃g k A,op=.loadV g k A
   ·obtain⟨g,k,A,rfl⟩:=h3;exact oK (op:=.load g k A) hc hok hd (by simp only[bK] at hv⊢;exact aID hv)
   ·by_cases h4:∃f A,op=.fieldV f A
    ·obtain⟨f,A,rfl⟩:=h4;exact oK (op:=.fieldAddr f A) hc hok hd (by simp only[bK] at hv⊢;exact aHs hv)
    ·have e:op.bare=op.bare0:=by
      cases op<;>first
       |rfl
       |exact absurd ⟨_,_,_,_,rfl⟩ h1
       |exact absurd ⟨_,_,_,_,rfl⟩ h2
       |exact absurd ⟨_,_,_,rfl⟩ h3
       |exact absurd ⟨_,_,rfl⟩ h4
     exact oK (by rw[hc,e]) hok hd hv
def aEd (t:Nat) (σ:St) (N:St→Prop):Prop:=match look σ.s t with
 | .loc n lo m=>match aB σ.h n with
  |some (.arr k rows _)=>(lo=0∧m=rows.length)∧N ⟨(t,.sl k rows)::(o6 n σ).s,(o6 n σ).h⟩
  |_=>False
 |_=>N σ
theorem aFi {σ:St}{N:St→Prop}{t:Nat} (hv:aEd t σ N) (hok:OK C σ.f a w S ρ κ):dF C N a w:=by
 unfold aEd at hv;split at hv
 ·rename_i n lo m hl;split at hv
  ·rename_i k rows z hb;obtain⟨⟨rfl,rfl⟩,hN⟩:=hv;have h1:=(hok.close (n:=n) (k:=k) (d:=t) (rows:=rows) (z:=z) hb hl).kill n;refine⟨_,fun b=>S b∨ρ n=some b,ρ,κ,hN,?_⟩
   have e1:tZ n ⟨upd σ.f.s (some t) (.sl k rows),fun m=>if m=n then none else σ.f.h m⟩=(⟨(t,.sl k rows)::(o6 n σ).s,(o6 n σ).h⟩:St).f:=by
    simp only[tZ,St.f,FSt.mk.injEq];refine⟨funext fun u=>?_,funext fun m=>?_⟩
    ·simp only[upd,look];by_cases hu:u=t
     ·subst hu;simp[scr,AV.has]
     ·rw[if_neg hu,if_neg hu];exact(mV (scr n) (by simp[scr,AV.has]) _ u).symm
    ·simp only[o6,rV];split<;>simp
   rw[e1] at h1;exact h1
  ·exact hv.elim
 ·exact⟨σ,S,ρ,κ,hv,hok⟩
/-! ## another name for a block -/
def nmF (n m:Name) (x:Name):Option Name:=if x=n then some m else if x=m then none else some x
theorem OK.rename {σ:FSt} (hok:OK C σ a w S ρ κ) {n m:Name} (hnm:n≠m) (hm:σ.h m=none) (hmb:∀j,m≠.b j) :
  ∃ρ' κ',OK C ⟨fun t=>rn (nmF n m) (σ.s t),fun x=>if x=m then(σ.h n).map (rnB (nmF n m)) else if x=n then none else(σ.h x).map (rnB (nmF n m))⟩ a w S ρ' κ':=by
 let ρ':Name→Option Nat:=fun x=>if x=m then ρ n else ρ x
 let κ':Name→Nat:=fun x=>if x=m then κ n else κ x
 let h':Name→Option Blk:=fun x=>if x=m then(σ.h n).map (rnB (nmF n m)) else if x=n then none else(σ.h x).map (rnB (nmF n m))
 have back:∀x b',h' x=some b'→∃y b,σ.h y=some b∧b'=rnB (nmF n m) b∧ρ' x=ρ y∧κ' x=κ y∧((x=m∧y=n)∨(x=y∧x≠m∧x≠n)):=by
  intro x b' hb;simp only[h'] at hb;split at hb
  ·rename_i hx;obtain⟨b,h1,h2⟩:=Option.map_eq_some_iff.1 hb;exact⟨n,b,h1,h2.symm,by simp[ρ',hx],by simp[κ',hx],.inl ⟨hx,rfl⟩⟩
  ·rename_i hx;split at hb
   ·cases hb
   ·rename_i hx2;obtain⟨b,h1,h2⟩:=Option.map_eq_some_iff.1 hb;exact⟨x,b,h1,h2.symm,by simp[ρ',hx],by simp[κ',hx],.inr ⟨rfl,hx,hx2⟩⟩
 have hφ:∀x y,nmF n m x=some y→ρ' y=ρ x∧κ' y=κ x∧∀b',h' y=some b'→∃b,σ.h x=some b∧b.same b':=by
  intro x y hxy
  have hy:ρ' y=ρ x∧κ' y=κ x∧(h' y=(σ.h x).map (rnB (nmF n m))):=by
   simp only[nmF] at hxy;split at hxy
   ·rename_i hx;obtain rfl:=Option.some.inj hxy;exact⟨by simp[ρ',hx],by simp[κ',hx],by simp[h',hx]⟩
   ·rename_i hx;split at hxy
    ·cases hxy
    ·rename_i hx2;obtain rfl:=Option.some.inj hxy;exact⟨by simp[ρ',hx2],by simp[κ',hx2],by simp[h',hx,hx2]⟩
  refine⟨hy.1,hy.2.1,fun b' hb=>?_⟩;rw[hy.2.2] at hb;obtain⟨b,h1,rfl⟩:=Option.map_eq_some_iff.1 hb;exact⟨b,h1,aAb _ _⟩
 have hsome:∀x,(h' x).isSome→∃y,(σ.h y).isSome∧ρ' x=ρ y∧((x=m∧y=n)∨(x=y∧x≠m∧x≠n)):=by
  intro x hx;obtain⟨b',hb⟩:=Option.isSome_iff_exists.1 hx;obtain⟨y,b,h1,_,h2,_,h3⟩:=back x b' hb;exact⟨y,by simp[h1],h2,h3⟩
 refine⟨ρ',κ',hok.nt,hok.defers,fun t=>(hok.slots t).ren hφ,⟨fun x b' hb=>?_,fun x y z hx hy hxz hyz=>?_,hok.hok.dom,hok.hok.env⟩,hok.size,hok.old,fun x z hx hz=>?_,hok.S0,hok.Snew,hok.out,fun j b hb=>?_⟩
 ·obtain⟨y,b,h1,rfl,h2,h3,_⟩:=back x b' hb;have hbk:=hok.hok.blk y b h1;cases b with
  | var c z =>
   obtain⟨u,cs,T,fr,g1,g2,g3,g4,g4',g5,g6,g7⟩:=hbk;refine⟨u,cs,T,fr,by rw[h2];exact g1,g2,g3,g4,g4',by rw[h3];exact g5,by rw[bW];exact g6,fun j hj=>?_⟩;rw[bW] at hj;rw[mR _ _ _ hj];exact⟨(g7 j hj).1,(g7 j hj).2.ren hφ⟩
  | arr k l z =>
   obtain⟨g0,g⟩:=hbk;refine⟨g0,?_⟩;rcases g with⟨g1,g2⟩|⟨u,cs,T,fr,g1,g2,g3,g4,g4',g5,g6,g7⟩
   ·exact .inl ⟨by rw[h2];exact g1,g2⟩
   ·exact .inr ⟨u,cs,T,fr,by rw[h2];exact g1,g2,g3,g4,g4',by rw[h3];exact g5,g6,g7⟩
 ·obtain⟨x2,q1,q2,q3⟩:=hsome x hx;obtain⟨y2,r1,r2,r3⟩:=hsome y hy;have e:=hok.hok.inj x2 y2 z q1 r1 (by rw[←q2];exact hxz) (by rw[←r2];exact hyz);rcases q3 with⟨rfl,rfl⟩|⟨rfl,q4,q5⟩<;>rcases r3 with⟨rfl,rfl⟩|⟨rfl,r4,r5⟩
  ·rfl
  ·exact absurd e.symm r5
  ·exact absurd e q5
  ·exact e
 ·obtain⟨y,q1,q2,_⟩:=hsome x hx;exact hok.mine y z q1 (by rw[←q2];exact hz)
 ·obtain⟨y,b0,h1,rfl,h2,h3,h4⟩:=back _ b hb;rcases h4 with⟨h4,_⟩|⟨rfl,_,_⟩
  ·exact absurd h4.symm (hmb j)
  ·obtain⟨k1,k2,b1,k3,k4⟩:=hok.keep j b0 h1;refine⟨by rw[h2];exact k1,by rw[h3];exact k2,b1,k3,?_⟩;have:=aAb (nmF n m) b0;revert k4 this;cases b1<;>cases b0<;>simp[Blk.same,rnB]<;>omega
def vB (n m:Name) (σ:St):St:=⟨σ.s.map fun p=>(p.1,rn (nmF n m) p.2),σ.h.map fun p=>(if p.1=n then m else p.1,rnB (nmF n m) p.2)⟩
theorem aAT {n m:Name}:∀(l:List (Name×Blk)) (x:Name),aB l m=none→aB (l.map fun p=>(if p.1=n then m else p.1,rnB (nmF n m) p.2)) x =
  if x=m then(aB l n).map (rnB (nmF n m)) else if x=n then none else(aB l x).map (rnB (nmF n m))
 | [],x,_=>by simp[aB]
 | (i,b)::r,x,h=>by
  simp only[aB] at h;have hi:¬m=i:=fun e=>by rw[if_pos e] at h;cases h
  rw[if_neg hi] at h;have ih:=aAT (n:=n) r x h;simp only[List.map_cons,aB];by_cases hin:i=n
  ·subst hin;by_cases hx:x=m
   ·subst hx;simp
   ·by_cases hx2:x=i
    ·subst hx2;rw[if_pos rfl,if_neg hx,ih,if_neg hx];simp[hx]
    ·rw[if_pos rfl,if_neg hx,ih,if_neg hx,if_neg hx2,if_neg hx,if_neg hx2,if_neg hx2]
  ·rw[if_neg hin];by_cases hx:x=m
   ·subst hx;rw[if_neg hi,ih,if_pos rfl,if_pos rfl,if_neg (fun e=>hin e.symm)]
   ·by_cases hx2:x=i
    ·subst hx2;rw[if_pos rfl,if_neg hx,if_neg hin,if_pos rfl];rfl
    ·rw[if_neg hx2,ih,if_neg hx,if_neg hx,if_neg hx2]
def aGE (t:Nat) (σ:St) (N:St→Prop):Prop:=match look σ.s t with
 | .loc n _ _=>if n=.t t 0 then N σ else match aB σ.h (.t t 0) with
  |none=>dE (.t t 0) σ=true∧N (vB n (.t t 0) σ)
  |some _=>dE (.t t 0) (o6 (.t t 0) σ)=true∧N (vB n (.t t 0) (o6 (.t t 0) σ))
 |_=>N σ
theorem aC9 {σ:St}{N:St→Prop}{t:Nat}{n:Name} (hn:n≠.t t 0) (hf:dE (.t t 0) σ=true) (hN:N (vB n (.t t 0) σ)) (hok:OK C σ.f a w S ρ κ):dF C N a w:=by
 have hf':=eQ hf;obtain⟨ρ',κ',h1⟩:=hok.rename (n:=n) (m:=.t t 0) hn hf'.1.1 (fun j=>by simp);refine⟨_,S,ρ',κ',hN,?_⟩
 have e:(⟨fun u=>rn (nmF n (.t t 0)) (σ.f.s u),fun x=>if x=.t t 0 then(σ.f.h n).map (rnB (nmF n (.t t 0))) else if x=n then none else(σ.f.h x).map (rnB (nmF n (.t t 0)))⟩:FSt)=(vB n (.t t 0) σ).f:=by
  simp only[St.f,vB,FSt.mk.injEq];refine⟨funext fun u=>(mV _ (by simp[rn]) _ u).symm,funext fun x=>(aAT _ x hf'.1.1).symm⟩
 rw[e] at h1;exact h1
theorem aFM {σ:St}{N:St→Prop}{t:Nat} (hv:aGE t σ N) (hok:OK C σ.f a w S ρ κ):dF C N a w:=by
 unfold aGE at hv;split at hv
 ·rename_i n lo m hl;split at hv
  ·exact⟨σ,S,ρ,κ,hv,hok⟩
  ·rename_i hn;split at hv
   ·exact aC9 hn hv.1 hv.2 hok
   ·have hk:=hok.kill (.t t 0);rw[←aGQ] at hk;exact aC9 hn hv.1 hv.2 hk
 ·exact⟨σ,S,ρ,κ,hv,hok⟩
end
section
variable [Envs]
variable {P:Program}{C:Ctx}{a:Act}{w:World}{S:Nat→Prop}{ρ:Name→Option Nat}{κ:Name→Nat}
def vc (P:Program) (K:St→Prop):List aJ→St→Prop
 | [],σ=>K σ
 | o::r,σ=>match o.guard with
  |none=>bK P o.dst σ (vc P K r) o.op
  | some (g,want)=>match look σ.s g with
   |.v (.bool b)=>BrW b want (bK P o.dst σ (vc P K r) o.op) (vc P K r ⟨put o.dst (.v (.tuple #[])) σ.s,σ.h⟩)
   |.v (.tuple _)=>vc P K r ⟨put o.dst (.v (.tuple #[])) σ.s,σ.h⟩
   |_=>False
def aJ.bare (o:aJ):aJ:={o with op:=o.op.bare}
def r9 (P:Program) (nt:Nat) (ops:Array Oper) (o:Oper):Option aJ:=
 match comp P o.op with
 |none=>none
 | some op=>if o.dst.all (fun d=>decide (d<nt)) then
   match o.guard with
   |none=>some ⟨o.dst,op,none⟩
   | some (j,want)=>match(ops[j]?).bind (·.dst) with
    |some t=>some ⟨o.dst,op,some (t,want)⟩
    |none=>none
  else none
theorem lY {nt:Nat}{ops:Array Oper}{o:Oper}{ao:aJ} (h:r9 P nt ops o=some ao.bare):comp P o.op=some ao.op.bare∧o.dst=ao.dst∧(∀d,o.dst=some d→d<nt)∧
  ((o.guard=none∧ao.guard=none)∨∃j want t,o.guard=some (j,want)∧ao.guard=some (t,want)∧(ops[j]?).bind (·.dst)=some t):=by
 unfold r9 at h;split at h
 ·cases h
 ·rename_i op hop;split at h
  ·rename_i hd
   have hdd:∀d,o.dst=some d→d<nt:=by
    intro d h1;rw[h1] at hd;simpa using hd
   split at h
   ·rename_i hg;simp only[Option.some.injEq,aJ.bare,aJ.mk.injEq] at h;obtain⟨h1,h2,h3⟩:=h;exact⟨by rw[hop,h2],h1,hdd,.inl ⟨hg,h3.symm⟩⟩
   ·rename_i j want hg;split at h
    ·rename_i t ht;simp only[Option.some.injEq,aJ.bare,aJ.mk.injEq] at h;obtain⟨h1,h2,h3⟩:=h;exact⟨by rw[hop,h2],h1,hdd,.inr ⟨j,want,t,hg,h3.symm,ht⟩⟩
    ·cases h
  ·cases h
theorem xV {σ:St}{ops:Array Oper}{o:Oper}{j t:Nat}{want b:Bool} (hok:OK C σ.f a w S ρ κ) (hg:o.guard=some (j,want)) (ht:(ops[j]?).bind (·.dst)=some t) (hl:look σ.s t=.v (.bool b)) :
  Region.wanted o (yielded ops a.tmps)=(b==want):=by
 have hr:=hok.slots t;simp only[St.f] at hr;rw[hl] at hr;have hv:=dY hr
 have:a.tmps[t]? = some (.bool b):=by
  cases hx:a.tmps[t]? with
  | none =>
   have:a.tmps.getD t undef=undef:=by simp[hx]
   rw[this] at hv;simp[undef] at hv
  | some u =>
   have:a.tmps.getD t undef=u:=by simp[hx]
   rw[this] at hv;rw[hv]
 simp[Region.wanted,hg,yielded,ht,this]
theorem xU {σ:St}{ops:Array Oper}{o:Oper}{j t:Nat}{want:Bool}{cs:Array Value} (hok:OK C σ.f a w S ρ κ) (hg:o.guard=some (j,want)) (ht:(ops[j]?).bind (·.dst)=some t) (hl:look σ.s t=.v (.tuple cs)) :
  Region.wanted o (yielded ops a.tmps)=false:=by
 have hr:=hok.slots t;simp only[St.f] at hr;rw[hl] at hr;have hv:=dY hr;cases hx:a.tmps[t]? with
 |none=>simp[Region.wanted,hg,yielded,ht,hx]
 | some u =>
  have:a.tmps.getD t undef=u:=by simp[hx]
  rw[this] at hv;subst hv;simp[Region.wanted,hg,yielded,ht,hx]
theorem aC5 {ops:Array Oper}{Q:Exit→Act→World→Prop}{K:St→Prop} (hQ:∀a w,dF C K a w→Q .normal a w):∀(aops:List aJ) (k:Nat),(∀j ao,aops[j]? = some ao→∃o,ops[k+j]? = some o∧r9 P C.nt ops o=some ao.bare)→
  ∀(σ:St) (a:Act) (w:World) (S:Nat→Prop) (ρ:Name→Option Nat) (κ:Name→Nat),vc P K aops σ→OK C σ.f a w S ρ κ→wpOps P ops Q (List.range' k aops.length) a w
 | [],k,_,σ,a,w,S,ρ,κ,hv,hok=>hQ a w ⟨σ,S,ρ,κ,hv,hok⟩
 | ao::r,k,hs,σ,a,w,S,ρ,κ,hv,hok=>by
  obtain⟨o,ho,hc⟩:=hs 0 ao (by simp);simp only[Nat.add_zero] at ho;obtain⟨h1,h2,h3,h4⟩:=lY hc;rw[List.length_cons,List.range'_succ,wpOps_cons]
  have ih:=aC5 hQ r (k+1) (fun j ao' hj=>by
    obtain⟨o',g1,g2⟩:=hs (j+1) ao' (by simpa using hj);exact⟨o',by rw[show k+1+j=k+(j+1) by omega];exact g1,g2⟩)
  have go:bK P ao.dst σ (vc P K r) ao.op→o.wp P a w (wpOps P ops Q (List.range' (k+1) r.length)) Q:=fun hst =>
   Oper.wp_mono (fun a' w' ⟨σ',S',ρ',κ',hK,hok'⟩=>ih σ' a' w' S' ρ' κ' hK hok') (uY (P:=P) h1 hok h3 (by rw[h2];exact hst))
  unfold wpOp;rw[ho];simp only[vc] at hv;rcases h4 with⟨g1,g2⟩|⟨j,want,t,g1,g2,g3⟩
  ·rw[g2] at hv;have:Region.wanted o (yielded ops a.tmps)=true:=by simp[Region.wanted,g1]
   simp only[this,if_true];exact .inl (go hv)
  ·rw[g2] at hv;simp only at hv;split at hv
   ·rename_i b hb;have hw:=xV hok g1 g3 hb;simp only[hw];by_cases hbw:b=want
    ·simp only[hbw,beq_self_eq_true,if_true];exact .inl (go ((kD.1 hv).1 hbw))
    ·have:(b==want)=false:=by simpa using hbw
     simp only[this,Bool.false_eq_true,if_false];have hn:b = !want:=by cases b<;>cases want<;>simp_all
     refine ih _ _ _ S ρ κ ((kD.1 hv).2 hn) ?_;have:=hok.put (x:=.v undef) (v:=undef) (.clo (.v _)) h3;rw[h2] at this⊢;simpa[St.f,kK,undef] using this
   ·rename_i cs hb;have hw:=xU hok g1 g3 hb;simp only[hw,Bool.false_eq_true,if_false];refine ih _ _ _ S ρ κ hv ?_;have:=hok.put (x:=.v undef) (v:=undef) (.clo (.v _)) h3;rw[h2] at this⊢;simpa[St.f,kK,undef] using this
   ·exact hv.elim
/-! ## code -/
inductive lL where
 |ret
 |exit (i:Nat)
inductive aD where
 |skip
 |region (ops:List aJ) (out:List Nat) (fl:List Nat)
 |seq (x y:aD)
 |cond (c:Operand) (x y:aD)
 |block (id:Nat) (c:aD)
 |loop (c:aD)
 |exit (id:Nat)
 |ret
 |closing (t:Nat) (c:aD)
 |naming (t:Nat) (c:aD)
def aAo (s:List (Nat×AV)):List Nat→List (Nat×AV)
 | []=>[]
 |t::r=>(t,look s t)::aAo s r
theorem aDb (s:List (Nat×AV)):∀(l:List Nat) (t:Nat),look (aAo s l) t=look s t∨look (aAo s l) t=.junk
 | [],t=>.inr rfl
 | i::r,t=>by
  simp only[aAo,look];split
  ·subst_vars;exact .inl rfl
  ·exact aDb s r t
theorem OK.less {σ σ':FSt} (hok:OK C σ a w S ρ κ) (hs:∀t,σ'.s t=σ.s t∨σ'.s t=.junk) (hh:∀n b,σ'.h n=some b→σ.h n=some b):OK C σ' a w S ρ κ:=by
 have hn:∀m,iN ρ ρ κ κ σ.h σ'.h m:=fun m b hb=>⟨rfl,rfl,b,hh m b hb,b.same_refl⟩
 have hsome:∀m,(σ'.h m).isSome→(σ.h m).isSome:=by
  intro m hm;obtain⟨b,hb⟩:=Option.isSome_iff_exists.1 hm;simp[hh m b hb]
 refine⟨hok.nt,hok.defers,fun t=>?_,⟨fun m b hb=>?_,fun m m' y h1 h2 h3 h4=>hok.hok.inj m m' y (hsome m h1) (hsome m' h2) h3 h4,hok.hok.dom,hok.hok.env⟩,hok.size,hok.old,fun m y h1 h2=>hok.mine m y (hsome m h1) h2,hok.S0,hok.Snew,hok.out,fun j b hb=>hok.keep j b (hh _ _ hb)⟩
 ·rcases hs t with e|e
  ·rw[e];exact(hok.slots t).mono (fun _ h=>h) (fun _ _=>rfl) fun m _=>hn m
  ·rw[e];exact .junk _
 ·exact(hok.hok.blk m b (hh m b hb)).mono (fun _ h=>h) (fun _ _ h=>h) (fun _ _=>rfl) (fun _ _=>rfl) rfl rfl fun m _=>hn m
def aCS (P:Program) (nt:Nat) (ops:Array Oper):List Oper→Option (List aJ)
 | []=>some []
 | o::r=>match r9 P nt ops o,aCS P nt ops r with
  |some x,some l=>some (x::l)
  |_,_=>none
def bU (P:Program) (nt:Nat) (drawn:Nat→Array Oper→Option (List Nat)):Code→Option aD
 |.skip=>some .skip
 | .region _ ops draw=>match(if draw then drawn nt ops else some []) with
  |some fl=>(aCS P nt ops ops.toList).map fun l=>.region l [] fl
  |none=>none
 | .seq x y=>match bU P nt drawn x,bU P nt drawn y with
  |some x,some y=>some (.seq x y)
  |_,_=>none
 | .cond c x y=>match bU P nt drawn x,bU P nt drawn y with
  |some x,some y=>some (.cond c x y)
  |_,_=>none
 |.block id x=>(bU P nt drawn x).map (.block id)
 |.loop x=>(bU P nt drawn x).map .loop
 |.exit id=>some (.exit id)
 |.ret=>some .ret
 |_=>none
def aD.bare:aD→aD
 |.region ops _ fl=>.region (ops.map aJ.bare) [] fl
 |.seq x y=>.seq x.bare y.bare
 |.cond c x y=>.cond c x.bare y.bare
 |.block id x=>.block id x.bare
 |.loop x=>.loop x.bare
 |.closing _ x=>x.bare
 |.naming _ x=>x.bare
 |c=>c
theorem qN {nt:Nat}{ops:Array Oper}:∀{l:List Oper}{r:List aJ},aCS P nt ops l=some (r.map aJ.bare)→l.length=r.length∧∀(j:Nat) (ao:aJ),r[j]? = some ao→∃o,l[j]? = some o∧r9 P nt ops o=some ao.bare
 | [],r,h=>by
  simp only[aCS,Option.some.injEq] at h;have:r=[]:=by simpa using h.symm
  subst this;simp
 | o::l,r,h=>by
  simp only[aCS] at h;split at h
  ·rename_i x l' h1 h2;cases r with
   |nil=>simp at h
   | cons ao r =>
    simp only[List.map_cons,Option.some.injEq,List.cons.injEq] at h;obtain⟨rfl,rfl⟩:=h;obtain⟨g1,g2⟩:=qN h2;refine⟨by simp[g1],fun j ao' hj=>?_⟩;cases j with
    | zero =>
     simp only[List.getElem?_cons_zero,Option.some.injEq] at hj;subst hj;exact⟨o,by simp,h1⟩
    |succ j=>simpa using g2 j ao' (by simpa using hj)
  ·cases h
def aCq (fl:List Nat) (ops:List aJ) (σ:St):Bool:=
 (fl.all fun d=>σ.s.all fun p=>!(p.1==d))&&ops.all fun o=>match o.op,o.dst with
  |.call _ _ bor,some d=>bor.isEmpty||!fl.contains d||fl.contains (d+2000000)
  |.bsliceC ..,some d=>!fl.contains d
  |.load ..,some d=>!fl.contains (d+1000000)
  |.fieldAddr ..,some d=>!fl.contains (d+1000000)
  |_,_=>true
def nG (P:Program) (drawn:Nat→Array Oper→Option (List Nat)):Prop:=
 ∀ (C:Ctx) (id:Nat) (ops:Array Oper) (aops:List aJ) (fl:List Nat) (K:St→Prop) (Q:Exit→Act→World→Prop) (σ:St) (a:Act) (w:World) (S:Nat→Prop) (ρ:Name→Option Nat) (κ:Name→Nat),
  drawn C.nt ops=some fl→aCS P C.nt ops ops.toList=some (aops.map aJ.bare)→aCq fl aops σ=true→(∀a w,dF C K a w→Q .normal a w)→vc P K aops σ→OK C σ.f a w S ρ κ→(Code.region id ops true).wp P Q a w
def SemW (P:Program) (C:Ctx) (drawn:Nat→Array Oper→Option (List Nat)) (ac:aD) (N:St→Prop) (E:lL→St→Prop) (σ:St):Prop:=
 ∀ (c:Code) (Q:Exit→Act→World→Prop) (a:Act) (w:World) (S:Nat→Prop) (ρ:Name→Option Nat) (κ:Name→Nat),bU P C.nt drawn c=some ac.bare→
  (∀a w,dF C N a w→Q .normal a w)→(∀i a w,dF C (E (.exit i)) a w→Q (.exit i) a w)→(∀a w,dF C (E .ret) a w→Q .ret a w)→OK C σ.f a w S ρ κ→c.wp P Q a w
def RgK (b:Bool) (A:Prop) (_:Tag (b,A)):Prop:=b=true∧A
theorem RgK.mk {b:Bool}{A:Prop}{t:Tag (b,A)} (h1:b=true) (h2:A):RgK b A t:=⟨h1,h2⟩
def aN (P:Program) (C:Ctx) (drawn:Nat→Array Oper→Option (List Nat)) (c:aD) (N:St→Prop) (E:lL→St→Prop) (σ:St) (_:Tag (N,E)):Prop:=SemW P C drawn (.loop c) N E σ
def wpc (P:Program) (C:Ctx) (drawn:Nat→Array Oper→Option (List Nat)):aD→(St→Prop)→(lL→St→Prop)→St→Prop
 |.skip,N,_,σ=>N σ
 | .region ops out fl,N,_,σ=>match fl with
  | []=>vc P (fun σ'=>N ⟨aAo σ'.s out,σ'.h⟩) ops σ
  |d::r=>RgK (aCq (d::r) ops σ) (vc P (fun σ'=>N ⟨aAo σ'.s out,σ'.h⟩) ops σ) .x
 |.seq x y,N,E,σ=>wpc P C drawn x (wpc P C drawn y N E) E σ
 | .cond c x y,N,E,σ=>match evO (look σ.s) c with
  |.v (.bool b)=>Br b (wpc P C drawn x N E σ) (wpc P C drawn y N E σ) .x
  |_=>False
 | .block id x,N,E,σ=>wpc P C drawn x N (fun e σ'=>match e with
   |.exit i=>(i=id→N σ')∧(i≠id→E (.exit i) σ')
   |.ret=>E .ret σ') σ
 |.loop x,N,E,σ=>aN P C drawn x N E σ .x
 |.exit id,_,E,σ=>E (.exit id) σ
 |.ret,_,E,σ=>E .ret σ
 |.closing t x,N,E,σ=>wpc P C drawn x (fun σ'=>aEd t σ' N) E σ
 |.naming t x,N,E,σ=>wpc P C drawn x (fun σ'=>aGE t σ' N) E σ
theorem tC {drawn:Nat→Array Oper→Option (List Nat)} (hdr:nG P drawn):∀(ac:aD) (N:St→Prop) (E:lL→St→Prop) (σ:St),wpc P C drawn ac N E σ→SemW P C drawn ac N E σ:=by
 intro ac
 induction ac with
 | skip =>
  intro N E σ hv c Q a w S ρ κ hc hN hE hR hok;cases c<;>simp[bU,aD.bare] at hc
  case skip=>exact wp_skip (hN a w ⟨σ,S,ρ,κ,hv,hok⟩)
  all_goals(first|(split at hc<;>simp at hc)|skip)
 | region ops out fl =>
  intro N E σ hv c Q a w S ρ κ hc hN hE hR hok
  have hv:aCq fl ops σ=true∧vc P (fun σ'=>N ⟨aAo σ'.s out,σ'.h⟩) ops σ:=by
   cases fl with
   | nil =>
    refine⟨?_,hv⟩;simp only[aCq,List.all_nil,Bool.true_and,List.all_eq_true];intro o _;split<;>simp
   |cons d r=>exact hv
  have hN':∀a w,dF C (fun σ'=>N ⟨aAo σ'.s out,σ'.h⟩) a w→Q .normal a w:=by
   rintro a w ⟨σ',S',ρ',κ',hK,hok'⟩;exact hN a w ⟨_,S',ρ',κ',hK,hok'.less (aDb _ _) (fun _ _ h=>h)⟩
  cases c
  case region id cops draw =>
   simp only[bU,aD.bare] at hc;split at hc
   ·rename_i fl' hdraw;cases ho:aCS P C.nt cops cops.toList with
    |none=>rw[ho] at hc;cases hc
    | some l =>
     rw[ho] at hc;simp only[Option.map_some,Option.some.injEq,aD.region.injEq,true_and] at hc;obtain⟨hc,rfl⟩:=hc;subst hc;cases draw with
     | false =>
      obtain⟨g1,g2⟩:=qN ho;refine wp_region ?_
      have:=aC5 (P:=P) hN' ops 0 (fun j ao hj=>by
        obtain⟨o,q1,q2⟩:=g2 j ao hj;exact⟨o,by simpa using q1,q2⟩) σ a w S ρ κ hv.2 hok
      rw[List.range_eq_range',show cops.size=ops.length by simpa using g1];exact this
     | true =>
      exact hdr C id cops ops _ _ Q σ a w S ρ κ (by simpa using hdraw) ho hv.1 hN' hv.2 hok
   ·cases hc
  all_goals(simp only[bU,aD.bare] at hc;first|(cases hc;done)|(split at hc<;>simp at hc)|(simp at hc))
 | seq x y ihx ihy =>
  intro N E σ hv c Q a w S ρ κ hc hN hE hR hok;cases c
  case seq cx cy =>
   simp only[bU,aD.bare] at hc;split at hc
   ·rename_i x' y' h1 h2;simp only[Option.some.injEq,aD.seq.injEq] at hc;obtain⟨rfl,rfl⟩:=hc;refine wp_seq (ihx _ _ _ hv cx _ a w S ρ κ h1 (fun a w hg=>?_) hE hR hok);obtain⟨σ',S',ρ',κ',hK,hok'⟩:=hg;exact ihy _ _ _ hK cy Q a w S' ρ' κ' h2 hN hE hR hok'
   ·cases hc
  all_goals(simp only[bU,aD.bare] at hc;first|(cases hc;done)|(split at hc<;>simp at hc)|(simp at hc))
 | cond cc x y ihx ihy =>
  intro N E σ hv c Q a w S ρ κ hc hN hE hR hok;cases c
  case cond co cx cy =>
   simp only[bU,aD.bare] at hc;split at hc
   ·rename_i x' y' h1 h2;simp only[Option.some.injEq,aD.cond.injEq] at hc;obtain⟨rfl,rfl,rfl⟩:=hc;simp only[wpc] at hv;split at hv
    ·rename_i b hb;have hev:=hok.ev co;rw[show evO σ.f.s co=_ from hb] at hev;have hb':=dY hev;cases b
     ·exact wp_cond_false hb' (ihy _ _ _ (hv.get.2 rfl) cy Q a w S ρ κ h2 hN hE hR hok)
     ·exact wp_cond_true hb' (ihx _ _ _ (hv.get.1 rfl) cx Q a w S ρ κ h1 hN hE hR hok)
    ·exact hv.elim
   ·cases hc
  all_goals(simp only[bU,aD.bare] at hc;first|(cases hc;done)|(split at hc<;>simp at hc)|(simp at hc))
 | block id x ih =>
  intro N E σ hv c Q a w S ρ κ hc hN hE hR hok;cases c
  case block cid cx =>
   simp only[bU,aD.bare] at hc;cases h1:bU P C.nt drawn cx with
   |none=>rw[h1] at hc;cases hc
   | some x' =>
    rw[h1] at hc;simp only[Option.map_some,Option.some.injEq,aD.block.injEq] at hc;obtain⟨rfl,rfl⟩:=hc;refine wp_block (ih _ _ _ hv cx _ a w S ρ κ h1 (fun a w hg=>hN a w hg) (fun i a w hg=>?_) (fun a w hg=>hR a w hg) hok);obtain⟨σ',S',ρ',κ',hK,hok'⟩:=hg;simp only[Exit.inBlock];by_cases hi:i=cid
    ·rw[if_pos hi];exact hN a w ⟨σ',S',ρ',κ',hK.1 hi,hok'⟩
    ·rw[if_neg hi];exact hE i a w ⟨σ',S',ρ',κ',hK.2 hi,hok'⟩
  all_goals(simp only[bU,aD.bare] at hc;first|(cases hc;done)|(split at hc<;>simp at hc)|(simp at hc))
 |loop x ih=>intro N E σ hv;exact hv
 | exit id =>
  intro N E σ hv c Q a w S ρ κ hc hN hE hR hok;cases c
  case exit cid =>
   simp only[bU,aD.bare,Option.some.injEq,aD.exit.injEq] at hc;subst hc;exact wp_exit (hE _ a w ⟨σ,S,ρ,κ,hv,hok⟩)
  all_goals(simp only[bU,aD.bare] at hc;first|(cases hc;done)|(split at hc<;>simp at hc)|(simp at hc))
 | ret =>
  intro N E σ hv c Q a w S ρ κ hc hN hE hR hok;cases c
  case ret=>exact wp_ret (hR a w ⟨σ,S,ρ,κ,hv,hok⟩)
  all_goals(simp only[bU,aD.bare] at hc;first|(cases hc;done)|(split at hc<;>simp at hc)|(simp at hc))
 | closing t x ih =>
  intro N E σ hv c Q a w S ρ κ hc hN hE hR hok;refine ih _ _ _ hv c Q a w S ρ κ hc (fun a' w' hg=>?_) hE hR hok;obtain⟨σ',S',ρ',κ',hcl,hok'⟩:=hg;exact hN a' w' (aFi hcl hok')
 | naming t x ih =>
  intro N E σ hv c Q a w S ρ κ hc hN hE hR hok;refine ih _ _ _ hv c Q a w S ρ κ hc (fun a' w' hg=>?_) hE hR hok;obtain⟨σ',S',ρ',κ',hcl,hok'⟩:=hg;exact hN a' w' (aFM hcl hok')
def LeL (σ σ':St):Prop:=(∀p,p∈σ'.s→look σ.s p.1=p.2∨p.2=.junk)∧∀p,p∈σ'.h→aB σ.h p.1=some p.2
theorem OK.le {σ σ':St} (hok:OK C σ.f a w S ρ κ) (h:LeL σ σ'):OK C σ'.f a w S ρ κ:=by
 refine hok.less (fun t=>?_) (fun n b hb=>h.2 _ (uK _ _ _ hb))
 have key:∀(l:List (Nat×AV)),(∀p,p∈l→look σ.s p.1=p.2∨p.2=.junk)→look l t=look σ.s t∨look l t=.junk:=by
  intro l
  induction l with
  |nil=>intro _;exact .inr rfl
  | cons p r ih =>
   intro hl;obtain⟨i,x⟩:=p;simp only[look];split
   ·rcases hl (i,x) (by simp) with h|h
    ·subst_vars;exact .inl h.symm
    ·exact .inr h
   ·exact ih fun q hq=>hl q (by simp[hq])
 exact key σ'.s h.1
theorem least (p:Nat→Prop) (h:∃n,p n):∃n,p n∧∀m,p m→n≤m:=by
 classical
 obtain⟨n,hn⟩:=h
 induction n using Nat.strongRecOn with
 | ind n ih =>
  by_cases hm:∃m,m<n∧p m
  ·obtain⟨m,hlt,hpm⟩:=hm;exact ih m hlt hpm
  ·refine⟨n,hn,fun m hpm=>?_⟩;apply Nat.le_of_not_lt;intro hlt;exact hm ⟨m,hlt,hpm⟩
theorem aN.intro {drawn:Nat→Array Oper→Option (List Nat)} (hdr:nG P drawn) {X:Type} (Inv:X→St) (μ:X→Nat) (x0:X) {c:aD}{N:St→Prop}{E:lL→St→Prop}{σ:St}{tg:Tag (N,E)} (h0:LeL σ (Inv x0))
  (hr:∀x,wpc P C drawn c (fun σ'=>∃x',LeL σ' (Inv x')∧μ x'<μ x) E (Inv x)):aN P C drawn c N E σ tg:=by
 show SemW P C drawn (.loop c) N E σ
 intro code Q a w S ρ κ hc hN hE hR hok;cases code
 case loop cx =>
  simp only[bU,aD.bare] at hc;cases h1:bU P C.nt drawn cx with
  |none=>rw[h1] at hc;cases hc
  | some x' =>
   rw[h1] at hc;simp only[Option.map_some,Option.some.injEq,aD.loop.injEq] at hc;subst hc
   classical
   let G:Act→World→Prop:=fun a w=>∃x S ρ κ,OK C (Inv x).f a w S ρ κ
   let m:Act→World→Nat:=fun a w=>if h:∃n x,μ x=n∧∃S ρ κ,OK C (Inv x).f a w S ρ κ then(least _ h).choose else 0
   refine wp_loop G m ⟨x0,S,ρ,κ,hok.le h0⟩ ?_;rintro a w hG
   have hex:∃n x,μ x=n∧∃S ρ κ,OK C (Inv x).f a w S ρ κ:=by
    obtain⟨x,S,ρ,κ,h⟩:=hG;exact⟨μ x,x,rfl,S,ρ,κ,h⟩
   obtain⟨x,hx,S,ρ,κ,hokx⟩:=(least _ hex).choose_spec.1;have hm:m a w=μ x:=by simp only[m,dif_pos hex];exact hx.symm
   refine tC hdr c _ _ _ (hr x) cx _ a w S ρ κ h1 (fun a' w' hg=>?_) hE hR hokx;obtain⟨σ',S',ρ',κ',⟨x',hle,hlt⟩,hok'⟩:=hg;have hok2:=hok'.le hle;refine⟨⟨x',S',ρ',κ',hok2⟩,?_⟩;have hex':∃n x,μ x=n∧∃S ρ κ,OK C (Inv x).f a' w' S ρ κ:=⟨μ x',x',rfl,S',ρ',κ',hok2⟩
   have:m a' w'≤μ x':=by
    simp only[m,dif_pos hex'];exact(least _ hex').choose_spec.2 _ ⟨x',rfl,S',ρ',κ',hok2⟩
   omega
 all_goals(simp only[bU,aD.bare] at hc;first|(cases hc;done)|(split at hc<;>simp at hc)|(simp at hc))
end
section
variable [Envs]
variable {P:Program}{C:Ctx}{a:Act}{w:World}{S:Nat→Prop}{ρ:Name→Option Nat}{κ:Name→Nat}{h:Name→Option Blk}
theorem aDa (hok:HOK S w ρ κ h) {S':Nat→Prop} (hS:∀b,S b→S' b) {E:List Name}{ρ':Name→Option Nat}{κ':Name→Nat}{h':Name→Option Blk}
  (hE:∀j n,E[j]? = some n→ρ' (.b j)=ρ n∧κ' (.b j)=κ n∧∀b',h' (.b j)=some b'→∃b,h n=some b∧b.same b') {c:Bool}
  {cs cs':List AV}{L:List Name}{vs:Array Value} (hm:fB (conv h 8 E c) cs=some (cs',L)) (hL:∀n,n∈L→∀y,ρ n=some y→S' y) (hr:∀j,j<cs.length→RV S w ρ κ h (cs.getD j .junk) (vs.getD j undef)) :
  ∀n,n∈L→n∉E∧(h n).isSome:=by
 intro n hn;obtain⟨j,hj,Lj,g1,g2⟩:=aAj hm n hn;obtain⟨Lj',g1',g3⟩:=(gQ hm).2 j hj;rw[g1] at g1';simp only[Option.some.injEq,Prod.mk.injEq,true_and] at g1';subst g1';exact(uP hok hS hE 8 c _ _ _ _ g1 (fun m hm=>hL m (g3 m hm)) (hr j hj)).2.2 n g2
theorem aBh (hok:HOK S w ρ κ h) {B:List Name} (hnd:B.Nodup) {x y:AV}{v:Value}{hout:List Blk}{L1 L2:List Name} (hx:RV S w ρ κ h x v)
  (hc:conv h 8 B false x=some (y,L1)) (hbs:uS h B B=some (hout,L2)) :
  ∃ (S':Nat→Prop) (ρ':Name→Option Nat) (κ':Name→Nat),HOK S' w ρ' κ' (Hn (hout.map some))∧RV S' w ρ' κ' (Hn (hout.map some)) y v∧(∀b,S b→S' b)∧
   (∀b,S' b→S b∨∃n,(h n).isSome∧ρ n=some b)∧(∀j z,(((hout.map some).getD j none).isSome)→ρ' (.b j)=some z→∃n,(h n).isSome∧ρ n=some z)∧
   ∀j n,B[j]? = some n→ρ' (.b j)=ρ n∧κ' (.b j)=κ n∧∀b',Hn (hout.map some) (.b j)=some b'→∃b,h n=some b∧b.same b':=by
 obtain⟨hbl,hbj,hbm⟩:=vO _ _ hbs
 let L:=L1++L2
 let S1:Nat→Prop:=fun y=>S y∨∃n,n∈L∧ρ n=some y
 let ρ0:Name→Option Nat:=fun m=>match m with|.b j=>(B[j]?).bind ρ|.t _ _=>none
 let κ0:Name→Nat:=fun m=>match m with|.b j=>((B[j]?).map κ).getD 0|.t _ _=>0
 have hS1:∀y,S y→S1 y:=fun y hy=>.inl hy;have hL1:∀n,n∈L1→n∈L:=fun n hn=>List.mem_append_left _ hn;have hL2:∀n,n∈L2→n∈L:=fun n hn=>List.mem_append_right _ hn
 have hE:∀j n,B[j]? = some n→ρ0 (.b j)=ρ n∧κ0 (.b j)=κ n∧∀b',Hn (hout.map some) (.b j)=some b'→∃b,h n=some b∧b.same b':=by
  intro j n hj;refine⟨by simp[ρ0,hj],by simp[κ0,hj],fun b' hb'=>?_⟩;obtain⟨b,b2,Lj,g1,g2,g3,_,_⟩:=hbj j n hj
  have:b'=b2:=by
   simp only[Hn,List.getD,List.getElem?_map,g3,Option.map_some,Option.getD_some,Option.some.injEq] at hb';exact hb'.symm
  subst this;refine⟨b,g1,?_⟩;cases b with
  | var c z =>
   simp only[fJ] at g2;cases hm:fB (conv h 8 B false) c with
   |none=>rw[hm] at g2;cases g2
   | some p =>
    rw[hm] at g2;simp only[Option.map_some,Option.some.injEq,Prod.mk.injEq] at g2;rw[←g2.1];exact((gQ hm).1).symm
  | arr k l z =>
   simp only[fJ,Option.some.injEq,Prod.mk.injEq] at g2;rw[←g2.1];exact Blk.same_refl _
 have hLS:∀m,m∈L→∀y,ρ m=some y→S1 y:=fun m hm y hy=>.inr ⟨m,hm,hy⟩;have spec:=uP hok hS1 (κ':=κ0) hE 8
 have hlent:∀n,n∈L→n∉B∧(h n).isSome:=by
  intro n hn;rcases List.mem_append.1 hn with hn|hn
  ·exact(spec false _ _ _ _ hc (fun m hm=>hLS m (hL1 m hm)) hx).2.2 n hn
  ·obtain⟨n',b,b',Lj,g1,g2,g3,g4⟩:=hbm n hn;cases b with
   | arr k l z =>
    simp only[fJ,Option.some.injEq,Prod.mk.injEq] at g3;rw[←g3.2] at g4;simp at g4
   | var c z =>
    simp only[fJ] at g3;cases hm:fB (conv h 8 B false) c with
    |none=>rw[hm] at g3;cases g3
    | some p =>
     obtain⟨c',Lp⟩:=p;rw[hm] at g3;simp only[Option.map_some,Option.some.injEq,Prod.mk.injEq] at g3;obtain⟨_,rfl⟩:=g3;obtain⟨x,cs,T,fr,q1,q2,q3,q4,_,q5,q6,q7⟩:=hok.blk n' _ g2;obtain⟨i,hi⟩:=List.mem_iff_getElem?.1 g1;obtain⟨b1,b2,Lb,p1,p2,p3,p4,p5⟩:=hbj i n' hi;rw[g2] at p1;obtain rfl:=Option.some.inj p1;simp only[fJ,hm,Option.map_some,Option.some.injEq,Prod.mk.injEq] at p2;obtain⟨_,rfl⟩:=p2;exact aDa hok hS1 (κ':=κ0) hE hm (fun m hm=>hLS m (hL2 m (p5 m hm))) (fun j hj=>(q7 j hj).2) n g4
 have hBS:∀n b,n∈B→h n=some b→b.fz=false→∀x,ρ n=some x→¬S1 x:=by
  rintro n b hn hb hz x hx (hs|⟨m,hm,hmx⟩)
  ·have:=hok.blk n b hb;cases b with
   | var c z =>
    obtain⟨y,_,_,_,g1,_,_,g2,_⟩:=this;obtain rfl:=Option.some.inj (hx.symm.trans g1);exact g2 hz hs
   | arr k l z =>
    obtain⟨_,⟨g1,_⟩|⟨y,_,_,_,g1,_,_,g2,_⟩⟩:=this
    ·rw[hx] at g1;cases g1
    ·obtain rfl:=Option.some.inj (hx.symm.trans g1);exact g2 hz hs
  ·have:=hok.inj m n x (hlent m hm).2 (by simp[hb]) hmx hx;subst this;exact(hlent m hm).1 hn
 have hHn:∀j b',Hn (hout.map some) (.b j)=some b'→∃n b Lj,B[j]? = some n∧h n=some b∧fJ h B b=some (b',Lj)∧(∀m,m∈Lj→m∈L2)∧b'.fz=false:=by
  intro j b' hb'
  have hj:j<B.length:=by
   rw[←hbl];rcases Nat.lt_or_ge j hout.length with h'|h'
   ·exact h'
   ·simp[Hn,List.getD,List.getElem?_eq_none h'] at hb'
  obtain⟨b,b2,Lj,g1,g2,g3,g4,g5⟩:=hbj j B[j] (by simp[hj])
  have:b'=b2:=by
   simp only[Hn,List.getD,List.getElem?_map,g3,Option.map_some,Option.getD_some,Option.some.injEq] at hb';exact hb'.symm
  subst this;exact⟨B[j],b,Lj,by simp[hj],g1,g2,g5,g4⟩
 have hok1:HOK S1 w ρ0 κ0 (Hn (hout.map some)):=by
  refine⟨fun m b' hb'=>?_,fun m m' x h1 h2 h3 h4=>?_,?_,hok.env.mono hS1 fun _ _=>rfl⟩
  ·cases m with
   |t=>simp[Hn] at hb'
   | b j =>
    obtain⟨n,b,Lj,g0,g1,g2,g5,g4⟩:=hHn j b' hb';obtain⟨e1,e2,_⟩:=hE j n g0;have hb:=hok.blk n b g1;have hnS:=hBS n b (List.mem_of_getElem? g0) g1;cases b with
    | var c z =>
     simp only[fJ] at g2;cases hm:fB (conv h 8 B false) c with
     |none=>rw[hm] at g2;cases g2
     | some p =>
      obtain⟨c',Lp⟩:=p;rw[hm] at g2;simp only[Option.map_some,Option.some.injEq,Prod.mk.injEq] at g2;obtain⟨rfl,rfl⟩:=g2;obtain⟨x,cs,T,fr,q1,q2,q3,q4,q4',q5,q6,q7⟩:=hb;obtain⟨l1,l2⟩:=gQ hm;refine⟨x,cs,T,fr,by rw[e1];exact q1,q2,q3,fun hz=>hnS hz x q1,fun hz=>.inl (q4' hz),by rw[e2];exact q5,by omega,fun i hi=>⟨(q7 i (by omega)).1,?_⟩⟩;obtain⟨Li,l3,l4⟩:=l2 i (by omega);exact(spec false _ _ _ _ l3 (fun m hm=>hLS m (hL2 m (g5 m (l4 m hm)))) (q7 i (by omega)).2).1 rfl
    | arr k l z =>
     simp only[fJ,Option.some.injEq,Prod.mk.injEq] at g2;obtain⟨rfl,rfl⟩:=g2;obtain⟨q0,⟨q1,q2⟩|⟨x,cs,T,fr,q1,q2,q3,q4,q4',q5,q6,q7⟩⟩:=hb
     ·exact⟨q0,.inl ⟨by rw[e1];exact q1,q2⟩⟩
     ·exact⟨q0,.inr ⟨x,cs,T,fr,by rw[e1];exact q1,q2,q3,fun hz=>hnS hz x q1,fun hz=>.inl (q4' hz),by rw[e2];exact q5,q6,fun i j hi hj=>⟨(q7 i j hi hj).1,(q7 i j hi hj).2.mono hS1 fun _ _=>rfl⟩⟩⟩
  ·cases m with
   |t=>simp[Hn] at h1
   | b j =>
    cases m' with
    |t=>simp[Hn] at h2
    | b j' =>
     obtain⟨b1,hb1⟩:=Option.isSome_iff_exists.1 h1;obtain⟨b2,hb2⟩:=Option.isSome_iff_exists.1 h2;obtain⟨n,b,_,g0,g1,_⟩:=hHn j b1 hb1;obtain⟨n',b',_,g0',g1',_⟩:=hHn j' b2 hb2;rw[(hE j n g0).1] at h3;rw[(hE j' n' g0').1] at h4;obtain rfl:=hok.inj n n' x (by simp[g1]) (by simp[g1']) h3 h4;congr 1;have e1:=o8 hnd g0;have e2:=o8 hnd g0';rw[e1] at e2;exact Option.some.inj e2
  ·rintro y (hy|⟨n,hn,hy⟩)
   ·exact hok.dom y hy
   ·exact hok.lt (hlent n hn).2 hy
 refine⟨S1,ρ0,κ0,hok1,(spec false _ _ _ _ hc (fun m hm=>hLS m (hL1 m hm)) hx).1 rfl,hS1,?_,?_,hE⟩
 ·rintro b (hb|⟨n,hn,hb⟩)
  ·exact .inl hb
  ·exact .inr ⟨n,(hlent n hn).2,hb⟩
 ·intro j z hj hz;obtain⟨b',hb'⟩:=Option.isSome_iff_exists.1 hj;obtain⟨n,b,_,g0,g1,_⟩:=hHn j b' hb';rw[(hE j n g0).1] at hz;exact⟨n,by simp[g1],hz⟩
/-! ## what a function hands back -/
def resV (P:Program) (σ:St) (K:AV→Prop):ResultVar→Prop
 |.tmp t=>K (look σ.s t)
 | .cell A T=>match vG P T with
  |some (g,k)=>rd (evO (look σ.s)) (aB σ.h) K (.load g k (.tmp A))
  |none=>False
def aHo (P:Program) (σ:St) (K:List AV→Prop):List ResultVar→Prop
 | []=>K []
 |r::rs=>resV P σ (fun x=>aHo P σ (fun xs=>K (x::xs)) rs) r
def aEF:List AV→AV
 | [x]=>x
 |l=>.tup l
def wQ (P:Program) (rs:List ResultVar) (B:List Name) (r:AV) (hout:List Blk) (σ:St):Prop:=
 aHo P σ (fun xs=>∃L1 L2,conv (aB σ.h) 8 B false (aEF xs)=some (r,L1)∧uS (aB σ.h) B B=some (hout,L2)) rs
def aFG (tmps:Array Value):ResultVar→Sem Value
 |.tmp t=>pure (tmps.getD t undef)
 |.cell A T=>do loadVar T (←asAddr (tmps.getD A undef))
theorem aIB {σ:St}{K:AV→Prop} (hok:OK C σ.f a w S ρ κ) {r:ResultVar} (h:resV P σ K r) :
  ∃x v,K x∧RV S w ρ κ σ.f.h x v∧(aFG a.tmps r).run P w=.ok v w:=by
 cases r with
 |tmp t=>exact⟨_,_,h,hok.slots t,by simp[aFG]⟩
 | cell A T =>
  simp only[resV] at h;split at h
  ·rename_i g k hl;obtain⟨x,v,hK,hrun,hx⟩:=aGz hok hl h;refine⟨x,v,hK,hx,?_⟩;simp only[aFG];have e:a.eval (.tmp A)=a.tmps.getD A undef:=rfl;rw[e] at hrun;simp only[Instr.loadAt,Sem.run_bind] at hrun;simp only[rd] at h;have hev:=hok.ev (.tmp A);rw[e] at hev;generalize a.tmps.getD A undef=va at hev hrun⊢;split at h
   ·rename_i c hc;rw[show evO σ.f.s (.tmp A)=_ from hc] at hev;cases pU hev with
    | ro _ b off xs _ _ _ _ =>
     simp only[Sem.run_bind,asAddr,Instr.sureAddr,Sem.run_pure,Result.andThen_ok] at hrun⊢;exact hrun
   ·rename_i n e' c hc;rw[show evO σ.f.s (.tmp A)=_ from hc] at hev;split at h
    ·rename_i b hb;obtain⟨y,hy,hva⟩:=eX hev b hb;rw[hva] at hrun⊢;simp only[Sem.run_bind,asAddr,Instr.sureAddr,Sem.run_pure,Result.andThen_ok] at hrun⊢;exact hrun
    ·exact h.elim
   ·exact h.elim
  ·exact h.elim
theorem aEA {σ:St} (hok:OK C σ.f a w S ρ κ):∀{rs:List ResultVar}{K:List AV→Prop},aHo P σ K rs→
  ∃ xs vs,K xs∧vs.length=xs.length∧(∀j,j<xs.length→RV S w ρ κ σ.f.h (xs.getD j .junk) (vs.getD j undef))∧
   (rs.mapM (aFG a.tmps)).run P w=.ok vs w
 | [],K,h=>⟨[],[],h,rfl,by simp,by simp⟩
 | r::rs,K,h=>by
  obtain⟨x,v,h1,h2,h3⟩:=aIB hok h;obtain⟨xs,vs,h4,h5,h6,h7⟩:=aEA hok h1;refine⟨x::xs,v::vs,h4,by simp[h5],fun j hj=>?_,?_⟩
  ·cases j with
   |zero=>simpa using h2
   |succ j=>simpa using h6 j (by simpa using hj)
  ·simp only[List.mapM_cons,Sem.run_bind,h3,Result.andThen_ok,h7,Sem.run_pure]
theorem aDP {σ:St} (hok:OK C σ.f a w S ρ κ) {fn:Func}{K:AV→Prop} (h:aHo P σ (fun xs=>K (aEF xs)) fn.results.toList) :
  ∃x v,K x∧RV S w ρ κ σ.f.h x v∧(results fn a.tmps).run P w=.ok v w:=by
 obtain⟨xs,vs,h1,h2,h3,h4⟩:=aEA hok h
 have hr:(results fn a.tmps).run P w=.ok (if h:vs.toArray.size=1 then vs.toArray[0] else .tuple vs.toArray) w:=by
  have hm:fn.results.mapM (aFG a.tmps)=(do pure (←fn.results.toList.mapM (aFG a.tmps)).toArray):=by
   rw[←Array.toArray_toList (xs:=fn.results),List.mapM_toArray];rfl
  change (do let vs ←fn.results.mapM (aFG a.tmps);pure (if h:vs.size=1 then vs[0] else .tuple vs):Sem Value).run P w=_
  rw[hm];simp only[Sem.run_bind,h4,Result.andThen_ok,Sem.run_pure]
 refine⟨_,_,h1,?_,hr⟩
 match xs,vs,h2,h3 with
 | [x],[v],_,h3=>simpa[aEF] using h3 0 (by simp)
 | [],[],_,h3=>exact .tup _ _ rfl (by simp)
 |x::x'::r,v::v'::r',h2,h3=>exact .tup _ _ (by simpa using h2.symm) fun j hj=>by simpa using h3 j hj
def ini:Nat→List AV→List (Nat×AV)
 |_,[]=>[]
 |i,x::r=>(i,x)::ini (i+1) r
theorem aAk:∀(l:List AV) (i t:Nat),look (ini i l) t=if i≤t∧t<i+l.length then l.getD (t-i) .junk else .junk
 | [],i,t=>by simp[ini,look]
 | x::r,i,t=>by
  simp only[ini,look,aAk r (i+1) t,List.length_cons];by_cases h1:t=i
  ·subst h1;simp
  ·simp only[h1,if_false];by_cases h2:i+1≤t∧t<i+1+r.length
   ·have h3:i≤t∧t<i+(r.length+1):=by omega
    simp only[h2,h3,if_true,and_self];rw[show t-i=(t-(i+1))+1 by omega];simp
   ·have h3:¬(i≤t∧t<i+(r.length+1)):=by omega
    simp only[h2,h3,if_false]
def aAq:Nat→List Blk→List (Name×Blk)
 |_,[]=>[]
 |i,b::r=>(.b i,b)::aAq (i+1) r
theorem aAs (d j:Nat):∀(l:List Blk) (i:Nat),aB (aAq i l) (.t d j)=none
 | [],i=>rfl
 |b::r,i=>by simp[aAq,aB,aAs d j r]
theorem aAt (j:Nat):∀(l:List Blk) (i:Nat),aB (aAq i l) (.b j)=if i≤j then l[j-i]? else none
 | [],i=>by simp[aAq,aB]
 | b::r,i=>by
  simp only[aAq,aB,Name.b.injEq,aAt j r];by_cases h:j=i
  ·subst h;simp
  ·by_cases h2:i≤j
   ·have h3:i+1≤j:=by omega
    simp only[h,h2,h3,if_true,if_false];rw[show j-i=(j-(i+1))+1 by omega];simp
   ·have h3:¬i+1≤j:=by omega
    simp[h,h2,h3]
theorem kR (l:List Blk):aB (aAq 0 l)=Hn (l.map some):=by
 funext n
 cases n with
 |t d j=>rw[aAs];rfl
 | b j =>
  rw[aAt];simp only[Nat.zero_le,if_true,Nat.sub_zero,Hn,List.getD,List.getElem?_map];cases l[j]?<;>rfl
theorem Fn.intro {drawn:Nat→Array Oper→Option (List Nat)}{f:FuncId}{fn:Func} (hdr:nG P drawn) {body:Code}{ac:aD}{hin:List Blk}{args:List AV}{r:AV}{hout:List Blk} (B:List Name)
  (hf:P.funcs[f]? = some fn) (hb:fn.body=some body) (hname:fn.name≠"runtime.NumGoroutine") (hc:bU P fn.ntmps drawn body=some ac.bare) (hna:args.length≤fn.ntmps) (hnd:B.Nodup)
  (hB:∀j,j<hin.length→B[j]? = some (.b j))
  (hw:∀C:Ctx,C.nt=fn.ntmps→wpc P C drawn ac (wQ P fn.results.toList B r hout) (fun e σ=>match e with|.ret=>wQ P fn.results.toList B r hout σ|.exit _=>False) ⟨ini 0 args,aAq 0 hin⟩) :
  Fn P f hin args r (hout.map some):=by
 refine⟨⟨fn,body,hf,hb,hname⟩,?_⟩;intro S w ρ κ vs hok _ hvs hargs
 let C:Ctx:={nt:=fn.ntmps,w0:=w,S0:=S,Mut:=aCH ρ hin,ρ0:=fun j=>ρ (.b j),κ0:=fun j=>κ (.b j),h0:=fun j=>hin[j]?}
 have hC:=hw C rfl;refine calls_of_wp hf hb ?_
 have hret:∀a w',dF C (wQ P fn.results.toList B r hout) a w'→a.defers=[]∧∃v,(results fn a.tmps).run P w'=.ok v w'∧
   ∃v2 S' ρ' κ',Ending.returned v=.returned v2∧Post S w ρ κ hin S' w' ρ' κ' (hout.map some)∧RV S' w' ρ' κ' (Hn (hout.map some)) r v2:=by
  rintro a w' ⟨σ,S1,ρ1,κ1,hK,hok1⟩;refine⟨hok1.defers,?_⟩;obtain⟨x,v,⟨L1,L2,h1,h2⟩,h3,h4⟩:=aDP hok1 (K:=fun x=>∃L1 L2,conv (aB σ.h) 8 B false x=some (r,L1)∧uS (aB σ.h) B B=some (hout,L2)) hK;refine⟨v,h4,v,?_⟩;obtain⟨S',ρ',κ',g1,g2,g3,g4,g5,g6⟩:=aBh hok1.hok hnd h3 h1 h2;refine⟨S',ρ',κ',rfl,⟨g1,hok1.size,fun b hb hm=>hok1.old b hb hm,fun b hb=>g3 b (hok1.S0 b hb),fun b hb=>?_,fun j z hj hz=>?_,hok1.out,fun j b' hj hj'=>?_⟩,g2⟩
  ·rcases g4 b hb with h|⟨n,hn,h⟩
   ·exact hok1.Snew b h
   ·exact .inr (hok1.mine n b hn h)
  ·obtain⟨n,hn,h⟩:=g5 j z hj hz;exact hok1.mine n z hn h
  ·obtain⟨e1,e2,e3⟩:=g6 j (.b j) (hB j hj);obtain⟨b,h5,h6⟩:=e3 b' hj';obtain⟨e4,e5,b0,h7,h8⟩:=hok1.keep j b h5;exact⟨e1.trans e4,e2.trans e5,b0,h7,Blk.same_trans h8 h6⟩
 refine tC hdr ac _ _ _ hC body _ _ w S ρ κ hc (fun a w' hg=>hret a w' hg) (fun i a w' ⟨_,_,_,_,h,_⟩=>h.elim) (fun a w' hg=>hret a w' hg) ?_
 have hmem:∀n,((Hn (hin.map some)) n).isSome→∃j,j<hin.length∧n=.b j:=by
  intro n hn;cases n with
  |t d j=>simp[Hn] at hn
  | b j =>
   refine⟨j,?_,rfl⟩;rcases Nat.lt_or_ge j hin.length with h|h
   ·exact h
   ·simp[Hn,List.getD,List.getElem?_eq_none h] at hn
 refine⟨?_,rfl,fun t=>?_,by simp only[St.f,kR];exact hok,Nat.le_refl _,fun _ _ _=>rfl,fun n x h1 h2=>?_,fun _ h=>h,fun b hb=>.inl hb,⟨rfl,rfl⟩,fun j b hb=>?_⟩
 ·simp only[C,Array.size_append,Array.size_replicate];omega
 ·simp only[St.f,aAk,Nat.zero_le,true_and,Nat.zero_add,Nat.sub_zero,kR];split
  ·rename_i ht
   have e:(vs++Array.replicate (fn.ntmps-vs.size) undef).getD t undef=vs.getD t undef:=by
    have h1:t<vs.size:=by omega
    simp[Array.getElem?_append,h1]
   rw[e];exact hargs t ht
  ·exact .junk _
 ·simp only[St.f,kR] at h1;obtain⟨j,hj,rfl⟩:=hmem n h1;exact .inr ⟨j,hj,h2⟩
 ·simp only[St.f,kR] at hb;refine⟨rfl,rfl,b,?_,b.same_refl⟩;simp only[Hn,List.getD,List.getElem?_map] at hb;simp only[C];cases hx:hin[j]? with
  |none=>rw[hx] at hb;simp at hb
  |some b1=>rw[hx] at hb;simpa using hb
theorem nG.none:nG P (fun _ _=>.none):=by
 intro C id ops aops fl K Q σ a w S ρ κ h;cases h
end
section
variable [Envs]
def vJ:AOp→Bool
 |.box _|.alloc _|.bslice .. | .mk .. | .call .. | .store .. | .append .. | .appendC .. | .bsliceC .. | .clr ..=>false
 |_=>true
end
section
variable [Envs]
def aM:AOp→List Operand
 |.mv x=>[x]
 |.pick c a b=>[c,a,b]
 |.load _ _ a=>[a]
 |.fieldAddr _ x=>[x]
 |.loadV _ _ a=>[a]
 |.fieldV _ x=>[x]
 |.field _ _ _ x=>[x]
 |.idxSl _ x i=>[x,i]
 |.idxArr _ _ x i=>[x,i]
 |.idxAgg _ _ _ x i=>[x,i]
 |.idxStr x i=>[x,i]
 |.bin _ x y=>[x,y]
 |.binS _ x y=>[x,y]
 |.binB _ x y=>[x,y]
 |.un _ x=>[x]
 |.conv _ x=>[x]
 |.b2s x=>[x]
 |.eqA _ _ x y=>[x,y]
 |.idxB x y=>[x,y]
 |.len x=>[x]
 |.lenS x=>[x]
 |.lenC _=>[]
 |.slc _ x a b=>x::(a.toList++b.toList)
 |.sstr x a b=>x::(a.toList++b.toList)
 |.nilc x=>[x]
 |.extract x _=>[x]
 |.build _ ps=>ps.map fun p=>p.2.2
 |.mkfn _ cs=>cs
 |.mm _ x y=>[x,y]
 |.box x=>[x]
 |.alloc _=>[]
 |.bslice _ _ _ ps=>ps.map fun p=>p.2
 |.mk _ _ _ n=>[n]
 |.call f a _=>f::a
 |.store _ a x=>[a,x]
 |.append _ _ a x=>[a,x]
 |.appendC _ _ a x=>[a,x]
 |.bsliceC _ _ _ ps=>ps.map fun p=>p.2
 |.clr _ _ x=>[x]
def Agr (N:Name→Prop) (h h':Name→Option Blk):Prop:=∀n,¬N n→(h n).map frz=(h' n).map frz
def Off (N:Name→Prop) (x:AV):Prop:=∀n,N n→x.has n=false
def dU (N:Name→Prop) (c:List AV):Prop:=∀n,N n→nH n c=false
def aCG (N:Name→Prop) (b:Blk):Prop:=∀n,N n→b.has n=false
variable {N:Name→Prop}{h h':Name→Option Blk}{ev ev':Operand→AV}
theorem Agr.symm (ha:Agr N h h'):Agr N h' h:=fun n hn=>(ha n hn).symm
theorem Agr.none (ha:Agr N h h') {n:Name} (hn:¬N n) (hh:h n=none):h' n=none:=by
 have:=ha n hn;rw[hh] at this;cases hx:h' n with
 |none=>rfl
 |some b=>rw[hx] at this;simp at this
theorem Agr.some (ha:Agr N h h') {n:Name} (hn:¬N n) {b:Blk} (hh:h n=some b):∃b',h' n=some b'∧frz b'=frz b:=by
 have:=ha n hn;rw[hh] at this;cases hx:h' n with
 |none=>rw[hx] at this;simp at this
 |some b'=>rw[hx] at this;simp at this;exact⟨b',rfl,this.symm⟩
theorem aKY {b b':Blk} (hb:frz b'=frz b) (e:Nat):b'.row e=b.row e:=by
 cases b<;>cases b'<;>simp[frz] at hb<;>simp[Blk.row,hb];cases e<;>simp[Blk.row,hb]
theorem yH {b:Blk}{k:Nat}{l:List (List AV)}{z:Bool} (hb:frz b=frz (.arr k l z)):∃z',b=.arr k l z':=by
 cases b<;>simp[frz] at hb;obtain⟨rfl,rfl⟩:=hb;exact⟨_,rfl⟩
theorem aAy {b:Blk}{c:List AV}{z:Bool} (hb:frz b=frz (.var c z)):∃z',b=.var c z':=by
 cases b<;>simp[frz] at hb;subst hb;exact⟨_,rfl⟩
theorem aKZ {b b':Blk} (hb:frz b'=frz b) (n:Name):b'.has n=b.has n:=by
 cases b<;>cases b'<;>simp[frz] at hb<;>simp[Blk.has,hb]
theorem Off.ptr {n:Name}{e c:Nat} (ho:Off N (.ptr n e c)):¬N n:=fun hn=>by simpa[AV.has] using ho n hn
theorem Off.loc {n:Name}{e c:Nat} (ho:Off N (.loc n e c)):¬N n:=fun hn=>by simpa[AV.has] using ho n hn
theorem Off.agg {c:List AV} (ho:Off N (.agg c)):dU N c:=fun n hn=>by simpa[AV.has] using ho n hn
theorem Off.tup {c:List AV} (ho:Off N (.tup c)):dU N c:=fun n hn=>by simpa[AV.has] using ho n hn
theorem Off.fn {f:FuncId}{c:List AV} (ho:Off N (.fn f c)):dU N c:=fun n hn=>by simpa[AV.has] using ho n hn
theorem dU.cons {x:AV}{c:List AV} (ho:dU N (x::c)):Off N x∧dU N c:=
 ⟨fun n hn=>by have:=ho n hn;simp[nH] at this;exact this.1,fun n hn=>by have:=ho n hn;simp[nH] at this;exact this.2⟩
theorem dU.mk_cons {x:AV}{c:List AV} (hx:Off N x) (hc:dU N c):dU N (x::c):=fun n hn=>by simp[nH,hx n hn,hc n hn]
theorem dU.nil:dU N []:=fun _ _=>rfl
theorem dU.mem:∀{c:List AV},dU N c→∀x,x∈c→Off N x
 | [],_,x,hx=>by cases hx
 | y::r,ho,x,hx=>by
  rcases List.mem_cons.1 hx with rfl|hx
  ·exact ho.cons.1
  ·exact dU.mem ho.cons.2 x hx
theorem dU.of_mem:∀{c:List AV},(∀x,x∈c→Off N x)→dU N c
 | [],_=>dU.nil
 |_::_,h=>dU.mk_cons (h _ (by simp)) (dU.of_mem fun x hx=>h x (by simp[hx]))
theorem dU.getD {c:List AV} (ho:dU N c) (j:Nat):Off N (c.getD j .junk):=fun n hn=>qM (ho n hn)
theorem dU.drop {c:List AV} (ho:dU N c) (j:Nat):dU N (c.drop j):=dU.of_mem fun x hx=>ho.mem x (List.mem_of_mem_drop hx)
theorem dU.take {c:List AV} (ho:dU N c) (j:Nat):dU N (c.take j):=dU.of_mem fun x hx=>ho.mem x (List.mem_of_mem_take hx)
theorem Off.v (x:Value):Off N (.v x):=fun _ _=>rfl
theorem Off.junk:Off N .junk:=fun _ _=>rfl
theorem Off.sl (k:Nat) (l:List (List AV)):Off N (.sl k l):=fun _ _=>rfl
theorem Off.ro (c:List AV):Off N (.ro c):=fun _ _=>rfl
theorem Off.mk_agg {c:List AV} (ho:dU N c):Off N (.agg c):=fun n hn=>by simpa[AV.has] using ho n hn
theorem Off.mk_fn {f:FuncId}{c:List AV} (ho:dU N c):Off N (.fn f c):=fun n hn=>by simpa[AV.has] using ho n hn
theorem Off.mk_tup {c:List AV} (ho:dU N c):Off N (.tup c):=fun n hn=>by simpa[AV.has] using ho n hn
theorem Off.mk_ptr {n:Name}{e c:Nat} (hn:¬N n):Off N (.ptr n e c):=fun m hm=>by
 simp only[AV.has,decide_eq_false_iff_not];rintro rfl;exact hn hm
theorem Off.mk_loc {n:Name}{e c:Nat} (hn:¬N n):Off N (.loc n e c):=fun m hm=>by
 simp only[AV.has,decide_eq_false_iff_not];rintro rfl;exact hn hm
theorem wU (ha:Agr N h h') {x:AV} (ho:Off N x):rD h x=rD h' x:=by
 cases x<;>try rfl
 case loc n off len =>
  simp only[rD];cases hx:h n with
  |none=>rw[ha.none ho.loc hx]
  | some b =>
   obtain⟨b',hb',e⟩:=ha.some ho.loc hx;rw[hb'];cases b<;>cases b'<;>simp[frz] at e<;>rfl
 case ptr n e c =>
  simp only[rD];cases hx:h n with
  |none=>rw[ha.none ho.ptr hx]
  | some b =>
   obtain⟨b',hb',e⟩:=ha.some ho.ptr hx;rw[hb'];rfl
theorem uV {p q:AV→Bool}:∀{c:List AV},(∀x,x∈c→p x=q x)→c.all p=c.all q
 | [],_=>rfl
 |x::r,h=>by simp only[List.all_cons,h x (by simp),uV (c:=r) fun y hy=>h y (by simp[hy])]
theorem aCy (ha:Agr N h h') {x:AV} (ho:Off N x):jZ h x=jZ h' x:=by
 cases x
 case agg c =>
  simp only[jZ];rw[uV (q:=rD h') fun x hx=>wU ha (ho.agg.mem x hx)]
 all_goals simp only[jZ,wU ha ho]
theorem aF9 {x:AV} (ho:Off N x) {c:List AV} (hc:jZ h x=some c):dU N c:=by
 cases x
 case agg c' =>
  simp only[jZ] at hc;split at hc
  ·obtain rfl:=Option.some.inj hc;exact ho.agg
  ·cases hc
 all_goals
  simp only[jZ] at hc;split at hc
  ·obtain rfl:=Option.some.inj hc;exact dU.mk_cons ho dU.nil
  ·cases hc
theorem zA (ha:Agr N h h'):∀{ps:List (Nat×Nat×Operand)}{cs:List AV}{K:List AV→Prop},(∀p,p∈ps→ev p.2.2=ev' p.2.2∧Off N (ev p.2.2))→layAll ev h cs ps K→layAll ev' h' cs ps K
 | [],_,_,_,hk=>hk
 | (o,n,x)::r,cs,K,he,hk=>by
  obtain⟨e1,e2⟩:=he (o,n,x) (by simp);simp only at e1 e2;simp only[layAll] at hk⊢;rw[←e1,←aCy ha e2];split at hk
  ·exact⟨hk.1,zA ha (fun p hp=>he p (by simp[hp])) hk.2⟩
  ·exact hk
theorem wW:∀{ps:List (Nat×Nat×Operand)}{cs:List AV}{K K':List AV→Prop},(∀c,K c→K' c)→layAll ev h cs ps K→layAll ev h cs ps K'
 | [],_,_,_,hh,hk=>hh _ hk
 | (o,n,x)::r,cs,K,K',hh,hk=>by
  simp only[layAll] at hk⊢;split at hk
  ·exact⟨hk.1,wW hh hk.2⟩
  ·exact hk
theorem vH:∀{ps:List (Nat×Nat×Operand)}{cs:List AV}{K:List AV→Prop},layAll ev h cs ps K→∃c,K c∧layAll ev h cs ps (fun c'=>c'=c)
 | [],cs,_,hk=>⟨cs,hk,rfl⟩
 | (o,n,x)::r,cs,K,hk=>by
  simp only[layAll] at hk⊢;split at hk
  ·obtain⟨c,h1,h2⟩:=vH hk.2;exact⟨c,h1,hk.1,h2⟩
  ·exact hk.elim
end
end Go.Vs
