/- Every operation; a region that keeps its order. -/
import Derived.Test.YtfoddghhlagenaaGreatDoorVsK
import Derived.Test.YtfoddghhlagenaaGreatDoorVsI
import Derived.Laws.StructEq
import Derived.Laws.BytesString
import Derived.Laws.StandIn
set_option linter.all false
set_option maxHeartbeats 8000000
namespace Go.Vs
section
variable [Envs]
variable {P:Program}{C:Ctx}{a:Act}{w:World}{S:Nat->Prop}{ρ:Name->Option Nat}{κ:Name->Nat}
structure St where
 s:List (Nat×AV)
 h:List (Name×Blk)
def look:List (Nat×AV)->Nat->AV
 | [],_=>.junk
 |(i,x)::r,t=>if t=i then x else look r t
def aA:List (Name×Blk)->Name->Option Blk
 | [],_=>none
 |(i,x)::r,t=>if t=i then some x else aA r t
def St.f (σ:St):FSt:=⟨look σ.s,aA σ.h⟩
def put (d:Option Nat) (x:AV) (s:List (Nat×AV)):List (Nat×AV):=
 match d with
 |some d=>(d,x)::s
 |none=>s
theorem fU (d:Option Nat) (x:AV) (s:List (Nat×AV)):look (put d x s)=upd (look s) d x:=by
 cases d<;>rfl
def hset (n:Name) (b:Blk):List (Name×Blk)->List (Name×Blk)
 | []=>[(n,b)]
 |(i,x)::r=>if n=i then(i,b)::r else(i,x)::hset n b r
theorem oP (n:Name) (b:Blk):∀l,aA (hset n b l)=hput (aA l) n (some b)
 | []=>by funext m;simp only[hset,aA,hput]
 | (i,x)::r=>by
  funext m
  simp only[hset,hput]
  split
  .grind [aA]
  .rename_i hne
   simp only[aA]
   by_cases h1:m=i
   .subst h1;simp[Ne.symm hne]
   .simp only[h1,if_false,oP n b r,hput]
def Name.isT:Name->Bool
 |.t _ _=>true
 |.b _=>false
def bG (n:Name) (σ:St):Bool:=n.isT&&σ.s.all (λp=>!p.2.has n)&&σ.h.all (λp=>!decide (p.1=n)&&!p.2.has n)
theorem aAO:∀(s:List (Nat×AV)) (t:Nat),look s t=.junk∨∃p,p∈s∧p.2=look s t
 | [],_=>.inl rfl
 | (i,x)::r,t=>by
  simp only[look]
  split
  .exact .inr ⟨(i,x),by simp,rfl⟩
  .rcases aAO r t with h|⟨p,hp,h⟩
   all_goals grind
theorem nX:∀(l:List (Name×Blk)) (n:Name) (b:Blk),aA l n=some b->(n,b)∈l
 | [],_,_,h=>by simp[aA] at h
 | (i,x)::r,n,b,h=>by
  simp only[aA] at h
  split at h
  .grind
  .exact List.mem_cons_of_mem _ (nX r n b h)
theorem aBv {l:List (Name×Blk)}{n:Name} (h:∀p,p∈l->p.1≠n):aA l n=none:=by
 cases hl:aA l n with
 |none=>rfl
 |some b=>exact absurd rfl (h _ (nX l n b hl))
theorem bS {n:Name}{σ:St} (h:bG n σ=true):dU n σ.f:=by
 simp only[bG,Bool.and_eq_true,List.all_eq_true,Bool.not_eq_true',decide_eq_false_iff_not] at h
 obtain⟨⟨h0,h1⟩,h2⟩:=h
 have hb:∀j,n≠.b j:=by
  rintro j rfl
  cases h0
 have h:=And.intro h1 h2
 clear h1 h2
 refine⟨⟨aBv λp hp=>(h.2 p hp).1,hb⟩,λt=>?_,λm b hb=>(h.2 _ (nX _ _ _ hb)).2⟩
 rcases aAO σ.s t with e|⟨p,hp,e⟩
 .simp only[St.f,e,AV.has]
 .simp only[St.f,←e];exact h.1 p hp
def dA (n:Name) (σ:St):St:=⟨σ.s.map λp=>(p.1,scr n p.2),(σ.h.filter λp=>!decide (p.1=n)).map λp=>(p.1,rR n p.2)⟩
theorem jB (f:AV->AV) (hf:f .junk=.junk):∀(s:List (Nat×AV)) (t:Nat),look (s.map λp=>(p.1,f p.2)) t=f (look s t)
 | [],_=>by simp[look,hf]
 | (i,x)::r,t=>by
  simp only[List.map_cons,look]
  split
  .rfl
  .exact jB f hf r t
theorem mO (n:Name):∀(l:List (Name×Blk)) (m:Name),aA ((l.filter λp=>!decide (p.1=n)).map λp=>(p.1,rR n p.2)) m=if m=n then none else(aA l m).map (rR n)
 | [],m=>by simp[aA]
 | (i,x)::r,m=>by
  have ih:=mO n r m
  all_goals grind [aA]
theorem mX (n:Name) (σ:St):(dA n σ).f=kI n σ.f:=by
 simp only[St.f,dA,kI,FSt.mk.injEq]
 exact⟨funext λt=>jB (scr n) (by simp[scr,AV.has]) _ t,funext λm=>mO n _ m⟩
def aK:Option Name->St->St
 |some n,σ=>dA n σ
 |none,σ=>σ
theorem aAV (on:Option Name) (σ:St):(aK on σ).f=vQ on σ.f:=by
 cases on
 .rfl
 .exact mX _ _
/-! ## a call on lists -/
def mJ (g:Blk->Blk) (d nB:Nat):Nat->List (Option Blk)->List (Name×Blk)
 |_,[]=>[]
 |i,none::r=>mJ g d nB (i+1) r
 |i,some b::r=>if nB<=i then(.t d i,g b)::mJ g d nB (i+1) r else mJ g d nB (i+1) r
def aBc (B:List Name) (d:Nat) (hout:List (Option Blk)) (fz:Bool) (L:List Name) (m:Name) (b:Blk):Option Blk:=
 match gB B m with
 |some j=>(hout.getD j none).map (rnB (phi B d hout.length))
 |none=>some (if fz=true∧m∈L then frz b else b)
def yZ (f:Name->Blk->Option Blk):List (Name×Blk)->List (Name×Blk)
 | []=>[]
 | (m,b)::r=>match f m b with
  |some b'=>(m,b')::yZ f r
  |none=>yZ f r
def sH (h:List (Name×Blk)) (B:List Name) (d:Nat) (hout:List (Option Blk)) (fz:Bool) (L:List Name):List (Name×Blk):=
 mJ (rnB (phi B d hout.length)) d B.length 0 hout++yZ (aBc B d hout fz L) h
theorem uE (l l':List (Name×Blk)) (m:Name):aA (l++l') m=(aA l m).or (aA l' m):=by
 induction l with
 |nil=>simp[aA]
 | cons p r ih =>
  grind [aA]
def pU (g:Blk->Blk) (d nB i:Nat) (l:List (Option Blk)):Name->Option Blk
 |.t d' j=>if d'=d∧nB<=j∧i<=j∧j<i+l.length then(l.getD (j-i) none).map g else none
 |.b _=>none
theorem rZ (g:Blk->Blk) (d nB:Nat):∀(l:List (Option Blk)) (i:Nat) (m:Name),aA (mJ g d nB i l) m=pU g d nB i l m
 | [],i,m=>by
  grind [mJ,aA,pU,Name]
 | o::r,i,m=>by
  have ih:=rZ g d nB r (i+1) m
  have skip:(∀b,o=some b->¬nB<=i)->aA (mJ g d nB (i+1) r) m=pU g d nB i (o::r) m:=by
   intro ho
   rw[ih]
   cases m with
   |b=>rfl
   | t d' j =>
    simp only[pU,List.length_cons]
    by_cases hj:j=i
    .subst hj
     rw[if_neg (by omega)]
     cases o with
     |none=>simp
     |some b=>rw[if_neg (by intro h;exact ho b rfl h.2.1)]
    all_goals grind
  cases o with
  |none=>exact skip (by simp)
  | some b =>
   grind [mJ,aA,pU,Name]
theorem rY (f:Name->Blk->Option Blk) (hf:∀m b b',f m b=none->f m b'=none) (m:Name):∀h:List (Name×Blk),aA (yZ f h) m=(aA h m).bind (f m)
 | []=>rfl
 | (i,x)::r=>by
  have ih:=rY f hf m r
  simp only[yZ,aA]
  by_cases hm:m=i
  .subst hm
   cases hfx:f m x with
   | none =>
    simp only[ih,if_true,Option.bind_some,hfx]
    cases hr:aA r m with
    |none=>rfl
    |some b=>exact hf m x b hfx
   |some b=>simp[aA,hfx]
  all_goals grind [aA]
theorem aGB {σ:St}{B:List Name}{d:Nat}{hout:List (Option Blk)}{fz:Bool}{L:List Name} (hB:∀m,m∈B->(aA σ.h m).isSome) (hnew:∀j,B.length<=j->j<hout.length->aA σ.h (.t d j)=none) :
  aA (sH σ.h B d hout fz L)=aft (aA σ.h) B d hout fz L:=by
 funext m
 unfold sH
 rw [uE,rY _ (λm b b' h=>by
   unfold aBc at *
   cases hi:gB B m with
   |none=>rw[hi] at h;cases h
   |some j=>rw[hi] at h;exact h),rZ]
 unfold aft
 have hi:∀d' j,d'=d->B.length<=j->j<hout.length->gB B (.t d' j)=none:=by
  rintro d' j rfl h1 h2
  cases hi:gB B (.t d' j) with
  |none=>rfl
  | some i =>
   have:=hB _ (List.mem_of_getElem? (jR hi))
   rw[hnew j h1 h2] at this;cases this
 have rest:∀m,(aA σ.h m).bind (aBc B d hout fz L m)=match gB B m with
   |some j=>(hout.getD j none).map (rnB (phi B d hout.length))
   |none=>if fz=true∧m∈L then(aA σ.h m).map frz else aA σ.h m:=by
  intro m
  cases hx:gB B m with
  | none =>
   simp only
   cases aA σ.h m with
   |none=>simp
   | some b =>
    grind [aBc]
  | some j =>
   have:=hB _ (List.mem_of_getElem? (jR hx))
   obtain⟨b,hb⟩:=Option.isSome_iff_exists.1 this
   simp only[hb,Option.bind_some,aBc,hx]
 all_goals grind [pU,Name]
end
section
variable [Envs]
def lG:List Nat->List Value->List Value->Option Bool
 | [],[],[]=>some true
 | k::ks,x::r,y::s=>match eqV k x y,lG ks r s with
  |some a,some b=>some (a&&b)
  |_,_=>none
 |_,_,_=>none
mutual
def eqT (P:Program):Nat->TypeId->Option (List Nat)
 |0,_=>none
 | d+1,t=>match P.underlying t with
  |some .bool=>some [1]
  |some (.int _)=>some [0]
  |some .string=>some [2]
  | some (.struct fs)=>if P.stoodInHeld t then none else match eqF P d fs.toList 0 with
   |some l=>if fO P t=some l.length then some l else none
   |none=>none
  |_=>none
def eqF (P:Program):Nat->List Field->Nat->Option (List Nat)
 |0,_,_=>none
 |_+1,[],_=>some []
 | d+1,f::fs,o=>if f.name != "_" && f.offset==o then match eqT P d f.type with
   | some m=>if m.length=0 then none else match eqF P d fs (o+m.length) with
    |some l=>some (m++l)
    |none=>none
   |none=>none
  else none
end
theorem aA2:∀{ks:List Nat}{l m:List Value}{b:Bool},lG ks l m=some b->l.length=ks.length∧m.length=ks.length
 | [],[],[],_,_=>⟨rfl,rfl⟩
 | k::ks,x::r,y::s,b,h=>by
  simp only[lG] at h
  split at h
  .rename_i a b' h1 h2
   obtain⟨g1,g2⟩:=aA2 h2
   simp[g1,g2]
  .cases h
 | [],[],_::_,_,h=>by simp[lG] at h
 | [],_::_,_,_,h=>by simp[lG] at h
 |_::_,[],_,_,h=>by simp[lG] at h
 |_::_,_::_,[],_,h=>by simp[lG] at h
theorem vS:∀{k1 k2:List Nat}{l m:List Value}{b:Bool},lG (k1++k2) l m=some b->∃b1 b2,lG k1 (l.take k1.length) (m.take k1.length)=some b1∧lG k2 (l.drop k1.length) (m.drop k1.length)=some b2∧b=(b1&&b2)
 | [],k2,l,m,b,h=>⟨true,b,by simp[lG],by simpa using h,by simp⟩
 | k::k1,k2,l,m,b,h=>by
  cases l with
  |nil=>simp[lG] at h
  | cons x l=>cases m with
   |nil=>simp[lG] at h
   | cons y m =>
    simp only[List.cons_append,lG] at h
    split at h
    .rename_i a b' h1 h2
     obtain⟨b1,b2,g1,g2,rfl⟩:=vS h2
     all_goals grind [lG]
    .cases h
def rM (g:Bool) (xs:List Value):Value:=if g then .agg xs.toArray else xs.headD undef
theorem aAx {P:Program}{t:TypeId}{xs:Array Value}{o n:Nat}{g:Bool}{w:World} (hg:eT P t=some g) (hn:g=true->fO P t=some n) (h1:g=false->n=1) (ho:o+n<=xs.size) :
  (part t xs o).run P w=.ok (rM g ((xs.toList.drop o).take n)) w:=by
 cases g with
 | true =>
  simp only[part,Sem.run_bind,iU hg,Result.andThen_ok,if_true,run_sizeOf (hn rfl),Sem.run_pure,rM]
  congr 2
  apply Array.ext'
  simp
 | false =>
  obtain rfl:=h1 rfl
  have:o<xs.size:=by omega
  simp only[part,Sem.run_bind,iU hg,Result.andThen_ok,Bool.false_eq_true,if_false,rM]
  all_goals grind [Sem.run_pure,List.drop_eq_getElem_cons]
theorem aFj {P:Program}:∀{d:Nat}{t:TypeId}{l:List Nat},eqT P d t=some l->∃g,eT P t=some g∧(g=true->fO P t=some l.length)∧(g=false->l.length=1)
 |0,_,_,h=>by simp[eqT] at h
 | d+1,t,l,h=>by
  simp only[eqT] at h
  split at h
  .rename_i hu;obtain rfl:=Option.some.inj h;exact⟨false,by simp[eT,hu],by simp,by simp⟩
  .rename_i hu;obtain rfl:=Option.some.inj h;exact⟨false,by simp[eT,hu],by simp,by simp⟩
  .rename_i hu;obtain rfl:=Option.some.inj h;exact⟨false,by simp[eT,hu],by simp,by simp⟩
  .rename_i fs hu
   split at h
   .cases h
   .split at h
    .rename_i l' hl
     split at h
     .obtain rfl:=Option.some.inj h
      exact⟨true,by simp[eT,hu],λ_=>by assumption,by simp⟩
     .cases h
    .cases h
  .cases h
theorem aGk {P:Program} (w:World):∀(d:Nat),(∀(t:TypeId) (l:List Nat),eqT P d t=some l->∀(g:Bool),eT P t=some g->∀(xs ys:List Value) (b:Bool) (k:Nat),lG l xs ys=some b->
      (Op.equalIn (d+k) t (rM g xs) (rM g ys)).run P w=.ok b w)∧
  ∀(fs:List Field) (o:Nat) (l:List Nat),eqF P d fs o=some l->∀(xs ys:Array Value) (b:Bool) (k:Nat),lG l (xs.toList.drop o) (ys.toList.drop o)=some b->(Op.eqFields (d+k) xs ys fs).run P w=.ok b w:=by
 intro d
 induction d with
 |zero=>exact⟨λt l h=>by simp[eqT] at h,λfs o l h=>by simp[eqF] at h⟩
 | succ d ih =>
  obtain⟨iht,ihf⟩:=ih
  refine⟨λt l h g hg xs ys b k hv=>?_,λfs o l h xs ys b k hv=>?_⟩
  .simp only[eqT] at h
   have leaf:∀(c:Nat),l=[c]->g=false->∃x y,rM g xs=x∧rM g ys=y∧eqV c x y=some b:=by
    rintro c rfl rfl
    match xs,ys,hv with
    | [],_,hv=>simp[lG] at hv
    |_::_,[],hv=>simp[lG] at hv
    | x::r,y::s,hv =>
     grind [lG,rM]
   have e1:d+1+k=(d+k)+1:=by omega
   rw[e1]
   split at h
   .rename_i hu
    simp only[eT,hu,Option.some.injEq] at hg
    obtain⟨x,y,hx,hy,hxy⟩:=leaf 1 (Option.some.inj h).symm hg.symm
    all_goals grind [eqV,run_equalIn_bool',Value]
   .rename_i kk hu
    simp only[eT,hu,Option.some.injEq] at hg
    obtain⟨x,y,hx,hy,hxy⟩:=leaf 0 (Option.some.inj h).symm hg.symm
    rw[hx,hy]
    cases x<;>simp only[eqV] at hxy<;>try(cases hxy;done)
    cases y<;>simp only at hxy<;>try(cases hxy;done)
    all_goals grind [run_equalIn_int]
   .rename_i hu
    simp only[eT,hu,Option.some.injEq] at hg
    obtain⟨x,y,hx,hy,hxy⟩:=leaf 2 (Option.some.inj h).symm hg.symm
    all_goals grind [eqV,run_equalIn_string,Value]
   .rename_i fs hu
    simp only[eT,hu,Option.some.injEq] at hg
    subst hg
    split at h
    .cases h
    .rename_i hst
     split at h
     .rename_i l' hl
      split at h
      .obtain rfl:=Option.some.inj h
       have hfo:P.fieldsOf t=fs:=by simp[Program.fieldsOf,hu]
       simp only[rM,if_true]
       rw[run_equalIn_struct w (d+k) t _ _ (by rw[hfo];exact hu) (by simpa using hst),hfo]
       exact ihf _ _ _ hl _ _ b k (by simpa using hv)
      .cases h
     .cases h
   .cases h
  .cases fs with
   | nil =>
    simp only[eqF,Option.some.injEq] at h
    subst h
    have:b=true:=by
     grind [lG]
    subst this
    simp[Op.eqFields]
   | cons f fs =>
    simp only[eqF] at h
    split at h
    .rename_i hno
     simp only[Bool.and_eq_true,bne_iff_ne,ne_eq,beq_iff_eq] at hno
     split at h
     .rename_i m hm
      split at h
      .cases h
      rename_i hm0
      split at h
      .rename_i l' hl'
       obtain rfl:=Option.some.inj h
       obtain⟨g,hg,hg1,hg2⟩:=aFj hm
       have hlen:=aA2 hv
       simp only[List.length_drop,Array.length_toList,List.length_append] at hlen
       obtain⟨b1,b2,q1,q2,rfl⟩:=vS hv
       have hpx:=aAx (w:=w) (xs:=xs) (o:=o) hg hg1 hg2 (by omega)
       have hpy:=aAx (w:=w) (xs:=ys) (o:=o) hg hg1 hg2 (by omega)
       have e1:d+1+k=d+(1+k):=by omega
       have hq:=iht _ _ hm g hg _ _ b1 (1+k) q1
       simp only[Op.eqFields,ne_eq,hno.1,not_false_eq_true,if_true,hno.2,Sem.run_bind,hpx,hpy,Result.andThen_ok,e1,hq]
       cases b1 with
       |false=>simp
       | true =>
        simp only[Bool.not_true,Bool.false_eq_true,if_false,Bool.true_and]
        exact ihf fs (o+m.length) l' hl' xs ys b2 (1+k) (by rw[List.drop_drop,List.drop_drop] at q2;exact q2)
      .cases h
     .cases h
    .cases h
theorem aEj {P:Program}{S:Nat->Prop}{w:World}{ρ:Name->Option Nat}{κ:Name->Nat}{h:Name->Option Blk}:∀{ks:List Nat}{c c':List AV}{vs us:List Value}{b:Bool},eqC ks c c'=some b->
  c.length=vs.length->c'.length=us.length->(∀j,j<c.length->RV S w ρ κ h (c.getD j .junk) (vs.getD j undef))->(∀j,j<c'.length->RV S w ρ κ h (c'.getD j .junk) (us.getD j undef))->lG ks vs us=some b
 | [],[],[],[],[],b,hc,_,_,_,_=>by simpa[eqC,lG] using hc
 | k::ks,x::r,y::s,v::vs,u::us,b,hc,h1,h2,h3,h4=>by
  have g1:=h3 0 (by simp)
  have g2:=h4 0 (by simp)
  simp only[List.getD_cons_zero] at g1 g2
  cases x<;>try(simp[eqC] at hc;done)
  cases y<;>try(simp[eqC] at hc;done)
  cases g1 with|clo g1=>cases g1 with|v x =>
  cases g2 with|clo g2=>cases g2 with|v y =>
  simp only[eqC] at hc
  split at hc
  .rename_i a b' q1 q2
   have:=aEj (P:=P) q2 (by simpa using h1) (by simpa using h2) (λj hj=>by simpa using h3 (j+1) (by simpa using hj)) (λj hj=>by simpa using h4 (j+1) (by simpa using hj))
   simp only[lG,q1,this]
   exact hc
  .cases hc
 | [],[],_::_,_,_,b,hc,_,_,_,_=>by simp[eqC] at hc
 | [],_::_,_,_,_,b,hc,_,_,_,_=>by simp[eqC] at hc
 |_::_,[],_,_,_,b,hc,_,_,_,_=>by simp[eqC] at hc
 |_::_,_::_,[],_,_,b,hc,_,_,_,_=>by simp[eqC] at hc
 |_,_::_,_::_,[],_,b,hc,h1,_,_,_=>by simp at h1
 |_,_::_,_::_,_::_,[],b,hc,_,h2,_,_=>by simp at h2
 |_,[],[],_::_,_,b,hc,h1,_,_,_=>by simp at h1
 |_,[],[],[],_::_,b,hc,_,h2,_,_=>by simp at h2
variable {P:Program}{C:Ctx}{σ:FSt}{a:Act}{w:World}{S:Nat->Prop}{ρ:Name->Option Nat}{κ:Name->Nat}{K:AV->Prop}
theorem aDB (hok:OK C σ a w S ρ κ) {op:BinOp}{t:TypeId}{ks:List Nat}{x y:Operand}{neg:Bool} (hop:(op=.eql∧neg=false)∨(op=.neq∧neg=true)) (ht:eqT P 30 t=some ks) (hg:P.eqGuardType P.depth t=false) (ha:eT P t=some true)
  (hv:rd (evO σ.s) σ.h K (.eqA neg ks x y)):Ans P S w ρ κ σ.h K (do eqGuard op t x y (a.eval x) (a.eval y);binOp op t (a.eval x) (a.eval y)):=by
 have hx:=hok.ev x
 have hy:=hok.ev y
 generalize a.eval x=va at hx⊢
 generalize a.eval y=vb at hy⊢
 simp only[rd] at hv
 split at hv
 .rename_i c c' hc hc'
  rw[hc] at hx;rw[hc'] at hy
  obtain⟨vs,rfl,l1,r1⟩:=lC hx
  obtain⟨us,rfl,l2,r2⟩:=lC hy
  split at hv
  .rename_i b hb
   have hvs:=aEj (P:=P) (vs:=vs.toList) (us:=us.toList) hb (by simpa using l1) (by simpa using l2) (λj hj=>by rw[getD_toList];exact r1 j hj) (λj hj=>by rw[getD_toList];exact r2 j hj)
   have hrun:=(aGk (P:=P) w 30).1 t ks ht true ha vs.toList us.toList b 9970 hvs
   simp only[rM,if_true] at hrun
   rcases hop with⟨rfl,rfl⟩|⟨rfl,rfl⟩
   .refine⟨_,_,hv,?_,.clo (.v _)⟩
    simp only[Sem.run_bind,run_eqGuard_agg w _ t x y vs us hg,Result.andThen_ok,run_eql_struct w t vs us]
    rw[show(10000:Nat)=30+9970 from rfl,hrun]
    rfl
   .refine⟨_,_,hv,?_,.clo (.v _)⟩
    simp only[Sem.run_bind,run_eqGuard_agg w _ t x y vs us hg,Result.andThen_ok,run_neq_struct w t vs us]
    rw[show(10000:Nat)=30+9970 from rfl,hrun]
    rfl
  .exact hv.elim
 .exact hv.elim
end
section
variable [Envs]
variable {P:Program}{C:Ctx}{σ:FSt}{a:Act}{w:World}{S:Nat->Prop}{ρ:Name->Option Nat}{κ:Name->Nat}{K:AV->Prop}
theorem xO (ns:List Int):ns.foldl (λr n=>r.push (UInt8.ofNat n.toNat)) ByteArray.empty=kQ ns:=by
 have key:∀(ns:List Int) (b:ByteArray),ns.foldl (λr n=>r.push (UInt8.ofNat n.toNat)) b=⟨b.data++(ns.map λn=>UInt8.ofNat n.toNat).toArray⟩:=by
  intro ns
  induction ns with
  |nil=>intro b;cases b;simp
  | cons n r ih =>
   intro b
   simp only[List.foldl_cons,ih]
   cases b
   simp[ByteArray.push]
 rw[key]
 simp[kQ,ByteArray.empty,ByteArray.emptyWithCapacity]
 rfl
theorem rU:∀{l:List (List AV)}{ns:List Int},mI l=some ns->l=ns.map λn=>[.v (.int .u8 n)]
 | [],ns,h=>by simp[mI] at h;simp[h]
 | [.v (.int .u8 n)]::r,ns,h=>by
  simp only[mI] at h
  split at h
  .rename_i l hl
   obtain rfl:=Option.some.inj h
   rw[rU hl];rfl
  .cases h
 | []::r,ns,h=>by simp[mI] at h
 |(x::y::s)::r,ns,h=>by simp[mI] at h
 | [x]::r,ns,h=>by
  cases x<;>try(simp[mI] at h;done)
  rename_i v
  cases v<;>try(simp[mI] at h;done)
  rename_i k n
  cases k<;>try(simp[mI] at h;done)
  simp only[mI] at h
  split at h
  .rename_i l hl
   obtain rfl:=Option.some.inj h
   rw[rU hl];rfl
  .cases h
theorem aF0 (hok:OK C σ a w S ρ κ) {s d e:TypeId} (hs:P.underlying s=some (.slice e)) (he:P.underlying e=some (.int .u8)) (hd:P.underlying d=some .string) {x:Operand}
  (hv:rd (evO σ.s) σ.h K (.b2s x)):Ans P S w ρ κ σ.h K (convert s d (a.eval x)):=by
 have hx:=hok.ev x
 generalize a.eval x=va at hx⊢
 simp only[rd] at hv
 split at hv
 .rename_i l hl
  split at hv
  .rename_i ns hns
   obtain⟨base,cap,f,rfl,hr⟩:=wV hok.hok hx hl
   have hl':=rU hns
   refine⟨_,_,hv,?_,.clo (.v _)⟩
   rw[run_convert_bytes_string w s d e _ _ _ hs he hd]
   have hlen:l.length=ns.length:=by rw[hl'];simp
   cases ns with
   | nil =>
    have h0:l.length=0:=by simpa using hlen
    rw[h0]
    cases base with
    | none =>
     simp[Conv.bytesToString,kQ,ByteArray.empty,ByteArray.emptyWithCapacity]
     rfl
    | some A =>
     rw[run_bytesToString w A 0 cap [] (by simp[loadCells,loadCellsFrom]),xO]
   | cons n0 ns0 =>
    have hcell:=hr.cell w rfl
    obtain⟨b,off,hb,_⟩:=hcell 0 (by simp at hlen;omega)
    subst hb
    rw[hlen]
    rw[run_bytesToString w ⟨b,off,none⟩ _ cap (n0::ns0) ?_,xO]
    rw[run_loadCells w ⟨b,off,none⟩ _ f (λj hj=>?_)]
    .congr 1
     apply Array.ext'
     simp only
     apply List.ext_getElem?
     intro j
     rcases Nat.lt_or_ge j (n0::ns0).length with hj|hj
     .have hrc:=hr.rc j (by omega)
      have e1:kX 1 l j=.v (.int .u8 (n0::ns0)[j]):=by
       have:l[j]? = some [.v (.int .u8 (n0::ns0)[j])]:=by rw[hl'];simp only[List.getElem?_map,List.getElem?_eq_getElem hj,Option.map_some]
       simp[kX,List.getD,this,Nat.mod_one]
      rw[e1] at hrc
      have e2:f j=.int .u8 (n0::ns0)[j]:=by
       generalize f j=u at hrc
       cases hrc with|v _=>rfl
      rw[List.getElem?_map,List.getElem?_range hj,List.getElem?_map,List.getElem?_eq_getElem hj,Option.map_some,Option.map_some,e2]
     .rw[List.getElem?_eq_none (show(List.map f (List.range (n0::ns0).length)).length<=j by simpa using hj),List.getElem?_eq_none (show(List.map (Value.int .u8) (n0::ns0)).length<=j by simpa using hj)]
    .obtain⟨b',off',hb',hc'⟩:=hcell j (by omega)
     simp only[Option.some.injEq,Addr.mk.injEq,and_true] at hb'
     obtain⟨rfl,rfl⟩:=hb'
     rw[addr_add];exact hc'
  .exact hv.elim
 .exact hv.elim
def aD6 (P:Program) (f:FuncId):Bool:=match P.funcs[f]? with
 |some fn=>fn.body.isNone&&fn.name == "internal/bytealg.IndexByteString" && fn.origin == ""
 |none=>false
theorem aEh {fn:Func} (h:fn.name = "internal/bytealg.IndexByteString"):Extern.find fn=some Extern.BytealgIndexByte.indexByte:=by
 unfold Extern.find
 simp only[h]
 rfl
theorem aAd {fn:Func} (h:fn.name = "internal/bytealg.IndexByteString") (ho:fn.origin = ""):Extern.findNext fn=none:=by
 unfold Extern.findNext
 simp only[h,ho]
 rfl
theorem aEZ (hok:OK C σ a w S ρ κ) {o:Oper}{c:Call}{f:FuncId}{x y:Operand} (hop:o.op=.call c) (hc:c.callee=.value (.func f)) (hargs:c.args=#[x,y]) (hi:aD6 P f=true)
  (hv:rd (evO σ.s) σ.h K (.idxB x y)):∃x' v,K x'∧(execOp a.eval o).run P w=.ok (.value v) w∧RV S w ρ κ σ.h x' v:=by
 have hx:=hok.ev x
 have hy:=hok.ev y
 have hrun:(execOp a.eval o).run P w=(callFunc f #[a.eval x,a.eval y]).run P w:=by
  simp[execOp,hop,resolve,hc,hargs,Act.eval,Deferred.ofValue,invoke]
 generalize a.eval x=va at hx hrun
 generalize a.eval y=vb at hy hrun
 simp only[rd] at hv
 split at hv
 .rename_i s n h1 h2
  rw[h1] at hx;rw[h2] at hy
  obtain rfl:=aZ hx
  obtain rfl:=aZ hy
  unfold aD6 at hi
  split at hi
  .rename_i fn hfn
   simp only[Bool.and_eq_true,beq_iff_eq] at hi
   have hname:(fn.name == "runtime.NumGoroutine")=false:=by rw[hi.1.2];rfl
   refine⟨_,.int .i64 (wK s n),hv,?_,.clo (.v _)⟩
   rw[hrun,run_callFunc_indexByte hfn hname hi.1.1 (aAd hi.1.2 hi.2) (aEh hi.1.2)]
   have e:Extern.BytealgIndexByte.indexByte #[Value.string s,.int .u8 n]=(do
       let b ←Extern.Bytes.bytesOf (.string s)
       let c ←Extern.Bytes.asByte (.int .u8 n)
       match(List.range b.size).find? (λi=>b[i]! == c) with
       |some i=>pure (goInt i)
       |none=>pure (goInt (-1)):Sem Value):=rfl
   rw[e]
   simp only[Extern.Bytes.bytesOf,Extern.Bytes.asByte,Sem.run_bind,Sem.run_pure,Result.andThen_ok]
   unfold wK
   split
   .rename_i i hf
    simp only[hf,Sem.run_pure,Result.andThen_ok,goInt]
   .rename_i hf
    simp only[hf,Sem.run_pure,Result.andThen_ok,goInt]
  .cases hi
 .exact hv.elim
end
section
variable [Envs]
variable {P:Program}{C:Ctx}{a:Act}{w:World}{S:Nat->Prop}{ρ:Name->Option Nat}{κ:Name->Nat}
structure aH where
 dst:Option Nat
 op:AOp
 guard:Option (Nat×Bool)
def eF:AV->List Name
 |.loc n _ _=>[n]
 |.ptr n _ _=>[n]
 |_=>[]
def bX:AV->List Name
 |.agg c=>c.flatMap eF
 |x=>eF x
def bW (h:List (Name×Blk)) (n:Name):List Name:=
 match aA h n with
 |some (.var c _)=>c.flatMap eF
 |_=>[]
def yF (h:List (Name×Blk)) (xs:List AV) (bor:List Nat):List Name:=
 let t:=bor.flatMap λi=>bX (xs.getD i .junk)
 t++t.flatMap (bW h)
def nodupB:List Name->Bool
 | []=>true
 |n::r=>!r.contains n&&nodupB r
def iC (d nB n:Nat) (σ:St):Bool:=(List.range n).all λj=>decide (j<nB)||bG (.t d j) σ
def aB (P:Program) (f:FuncId) (hin:List Blk) (ys:List AV) (L:List Name) (d:Option Nat) (σ:St) (B:List Name) (K:St->Prop) (_:Tag K):Prop:=
 ∃ r hout fz,Fn P f hin ys r hout∧(fz=false->(L=[]∨(flat r=true∧∀b,some b∈hout->kV b)))∧
  iC (d.getD 0) B.length hout.length σ=true∧K ⟨put d (rn (phi B (d.getD 0) hout.length) r) σ.s,sH σ.h B (d.getD 0) hout fz L⟩
def yB (P:Program) (d:Option Nat) (σ:St) (K:St->Prop) (fv:AV) (xs:List AV) (B:List Name):Prop:=
 match fv with
 | .fn f caps=>match bO (conv (aA σ.h) 8 B false) (xs++caps),oD (aA σ.h) B B with
  |some (ys,L1),some (hin,L2)=>nodupB B=true∧aB P f hin ys (L1++L2) d σ B K .x
  |_,_=>False
 |_=>False
def aV (P:Program) (d:Option Nat) (σ:St) (K:St->Prop):AOp->Prop
 | .box x=>match d with
  |some d=>al (evO (look σ.s)) (aA σ.h) (.t d 0) (λv b=>(bG (.t d 0) σ=true∧b.has (.t d 0)=false)∧K ⟨(d,v)::σ.s,(.t d 0,b)::σ.h⟩) (.box x)
  |none=>False
 | .alloc z=>match d with
  |some d=>al (evO (look σ.s)) (aA σ.h) (.t d 0) (λv b=>(bG (.t d 0) σ=true∧b.has (.t d 0)=false)∧K ⟨(d,v)::σ.s,(.t d 0,b)::σ.h⟩) (.alloc z)
  |none=>False
 | .bslice k m z ps=>match d with
  |some d=>al (evO (look σ.s)) (aA σ.h) (.t d 0) (λv b=>(bG (.t d 0) σ=true∧b.has (.t d 0)=false)∧K ⟨(d,v)::σ.s,(.t d 0,b)::σ.h⟩) (.bslice k m z ps)
  |none=>False
 | .mk k y z n=>match d with
  |some d=>al (evO (look σ.s)) (aA σ.h) (.t d 0) (λv b=>(bG (.t d 0) σ=true∧b.has (.t d 0)=false)∧K ⟨(d,v)::σ.s,(.t d 0,b)::σ.h⟩) (.mk k y z n)
  |none=>False
 |.call f args bor=>yB P d σ K (evO (look σ.s) f) (args.map (evO (look σ.s))) (yF σ.h (args.map (evO (look σ.s))) bor)
 | .store k A X=>d=none∧match evO (look σ.s) A with
  | .ptr n e c=>match aA σ.h n,gM (aA σ.h) (evO (look σ.s) X) with
   |some b,some cs=>(b.fz=false∧0<k∧cs.length=k∧c+k<=(b.row e).length∧b.okc cs=true)∧K ⟨σ.s,hset n (b.setRow e (lay (b.row e) c cs)) σ.h⟩
   |_,_=>False
  |_=>False
 | .append k y A X=>match d with
  | some d=>match vY k (aA σ.h) (evO (look σ.s) A),kG k (aA σ.h) (evO (look σ.s) X) with
   | some (on,l),some l'=>(bG (.t d 0) (aK on σ)=true∧(l.length+l'.length)*y<=2 ^ 47∧l.length+l'.length<2 ^ 62)∧
     K ⟨(d,.loc (.t d 0) 0 (l.length+l'.length))::(aK on σ).s,(.t d 0,.arr k (l++l') false)::(aK on σ).h⟩
   |_,_=>False
  |none=>False
 | .appendC k y A X=>match d with
  | some d=>match vY k (aA σ.h) (evO (look σ.s) A),kG k (aA σ.h) (evO (look σ.s) X) with
   | some (on,l),some l'=>(bG (.t d 0) (aK on σ)=true∧(l.length+l'.length)*y<=2 ^ 47∧l.length+l'.length<2 ^ 62)∧
     K ⟨(d,.sl k (l++l'))::(aK on σ).s,(aK on σ).h⟩
   |_,_=>False
  |none=>False
 | .bsliceC k m z ps=>match d with
  |some d=>al (evO (look σ.s)) (aA σ.h) (.t d 0) (λv b=>(bG (.t d 0) σ=true∧b.has (.t d 0)=false)∧∃rows,b=.arr k rows false∧v=.loc (.t d 0) 0 rows.length∧K ⟨(d,.sl k rows)::σ.s,σ.h⟩) (.bslice k m z ps)
  |none=>False
 | .clr k z X=>match evO (look σ.s) X with
  | .loc n off len=>match aA σ.h n with
   |some (.arr k' l fz)=>(fz=false∧k'=k∧z.length=k∧(z.all λx=>mH (aA σ.h) x&&fM x)=true∧off+len<=l.length)∧K ⟨put d (.v (.tuple #[])) σ.s,hset n (.arr k (aAl l off len z) false) σ.h⟩
   |_=>False
  |_=>False
 |op=>rd (evO (look σ.s)) (aA σ.h) (λv=>K ⟨put d v σ.s,σ.h⟩) op
/-! ## resolving -/
def avs (z:Array Value):List AV:=z.toList.map λx=>.v x
def mZ (P:Program) (b:Builtin) (ts:List TypeId) (args:List Operand):Option AOp:=
 match b,ts,args with
 | .len,[t],[x]=>match P.underlying t with
  |some (.slice _)=>some (.len x)
  |some .string=>some (.lenS x)
  |some (.array n _)=>some (.lenC n)
  |_=>none
 | .append,[t,t2],[x,y]=>match P.underlying t,P.underlying t2 with
  | some (.slice e),some (.slice _)=>match P.info? e with
   | some i=>match i.zero with
    |some z=>if z.cells.size=i.size then some (.append i.size i.bytes x y) else none
    |none=>none
   |none=>none
  |_,_=>none
 |.max,[_,_],[x,y]=>some (.mm true x y)
 |.min,[_,_],[x,y]=>some (.mm false x y)
 | .clear,[t],[x]=>match P.underlying t with
  | some (.slice e)=>match P.info? e with
   | some i=>match i.zero with
    |some z=>some (.clr i.size (avs z.cells) x)
    |none=>none
   |none=>none
  |_=>none
 |_,_,_=>none
def bpS (P:Program) (fs:Array Field):List (Nat×Operand)->Option (List (Nat×Nat×Operand))
 | []=>some []
 | (i,x)::r=>match fs[i]? with
  | some f=>match fO P f.type,bpS P fs r with
   |some n,some l=>some ((f.offset,n,x)::l)
   |_,_=>none
  |none=>none
def aDu:Operand->Operand->Bool
 |.tmp l,.tmp c=>l==c
 |.const (.int k l),.const (.int k' c)=>k==k'&&l==c
 |_,_=>false
theorem aDt {x y:Operand} (h:aDu x y=true):x=y:=by
 unfold aDu at h
 all_goals grind
def comp (P:Program):Op->Option AOp
 |.move x=>some (.mv x)
 |.assign x=>some (.mv x)
 |.pick c x y=>some (.pick c x y)
 |.alloc t=>(zOf P t).map λz=>.alloc (avs z)
 |.box _ x=>some (.box x)
 | .build t ps=>match P.underlying t,zOf P t with
  |some (.struct fs),some z=>if fs.all (λf=>(fO P f.type).isSome) then(bpS P fs ps.toList).map λps=>.build (avs z) ps else none
  |some (.array _ e),some z=>(fO P e).map λn=>.build (avs z) (ps.toList.map λp=>(p.1*n,n,p.2))
  |_,_=>none
 | .buildSlice t m ps=>match P.underlying t with
  | some (.slice e)=>match fO P e,zOf P e with
   |some k,some z=>some (.bslice k m (avs z) ps.toList)
   |_,_=>none
  |_=>none
 |.load t x=>(pV P t).map λp=>.load p.1 p.2 x
 |.store t A X=>(fO P t).map λk=>.store k A X
 |.nilCheck x=>some (.nilc x)
 | .binOp op t x y _=>match P.underlying t with
  |some (.int _)=>some (.bin op x y)
  |some .string=>some (.binS op x y)
  |some .bool=>some (.binB op x y)
  | some (.struct _)=>match eqT P 30 t with
   | some ks=>if P.eqGuardType P.depth t=false∧eT P t=some true then match op with
     |.eql=>some (.eqA false ks x y)
     |.neq=>some (.eqA true ks x y)
     |_=>none
    else none
   |none=>none
  |_=>none
 |.unOp op _ x=>some (.un op x)
 | .convert s d x=>match P.underlying s,P.underlying d with
  |some (.int _),some (.int k)=>some (.conv k x)
  | some (.slice e),some .string=>match P.underlying e with
   |some (.int .u8)=>some (.b2s x)
   |_=>none
  |_,_=>none
 |.makeFunc (.func f) first caps=>if first.size=0 then some (.mkfn f caps.toList) else none
 | .makeSlice t L L'=>if aDu L L'=true then match P.underlying t with
   | some (.slice e)=>match P.info? e with
    | some i=>match i.zero with
     |some z=>some (.mk i.size i.bytes (avs z.cells) L)
     |none=>none
    |none=>none
   |_=>none
  else none
 | .slice t x lo hi none=>match P.underlying t with
  |some (.slice e)=>(fO P e).map λk=>.slc k x lo hi
  |some .string=>some (.sstr x lo hi)
  |_=>none
 | .fieldAddr s x i=>match oQ P s i with
  | some f=>match fO P f.type with
   |some (_+1)=>some (.fieldAddr f.offset x)
   |_=>none
  |none=>none
 | .field s x i=>match oQ P s i with
  |some f=>(pV P f.type).bind λp=>if fO P f.type=some p.2 then some (.field p.1 f.offset p.2 x) else none
  |none=>none
 | .indexAddr t x i=>match P.underlying t with
  |some (.slice e)=>(fO P e).map λk=>.idxSl k x i
  |some (.array n e)=>(fO P e).map λk=>.idxArr n k x i
  |_=>none
 | .index t x i=>match P.underlying t with
  |some .string=>some (.idxStr x i)
  |some (.array n e)=>(pV P e).bind λp=>if fO P e=some p.2 then some (.idxAgg p.1 n p.2 x i) else none
  |_=>none
 |.extract x i=>some (.extract x i)
 | .call c=>match c.callee with
  |.builtin b=>mZ P b c.argTypes.toList c.args.toList
  | .value (.func f)=>if aD6 P f then match c.args.toList with
    | [x,y]=>some (.idxB x y)
    |_=>none
   else some (.call (.func f) c.args.toList [])
  |.value f=>some (.call f c.args.toList [])
  |.invoke _ _=>none
 |_=>none
def AOp.bare0:AOp->AOp
 |.call f args _=>.call f args []
 |op=>op
def AOp.bare:AOp->AOp
 |.appendC k y a x=>.append k y a x
 |.loadV g k a=>.load g k a
 |.fieldV off x=>.fieldAddr off x
 |.bsliceC k n z ps=>.bslice k n z ps
 |op=>op.bare0
def bK (C:Ctx) (K:St->Prop) (a:Act) (w:World):Prop:=∃σ S ρ κ,K σ∧OK C (St.f σ) a w S ρ κ
theorem bK.put {σ:St} (hok:OK C σ.f a w S ρ κ) {x:AV}{v:Value} (hx:RV S w ρ κ σ.f.h x v) {d:Option Nat} (hd:∀d',d=some d'->d'<C.nt) {K:St->Prop} (hK:K ⟨Vs.put d x σ.s,σ.h⟩):bK C K (a.put d v) w:=by
 refine⟨_,S,ρ,κ,hK,?_⟩
 have:=hok.put hx hd
 simpa[St.f,fU] using this
theorem oH {σ:St}{K:St->Prop}{o:Oper}{Q:Exit->Act->World->Prop} (hok:OK C σ.f a w S ρ κ) (hd:∀d',o.dst=some d'->d'<C.nt)
  (h:∃x v,K ⟨put o.dst x σ.s,σ.h⟩∧(execOp a.eval o).run P w=.ok (.value v) w∧RV S w ρ κ σ.f.h x v):o.wp P a w (bK C K) Q:=by
 obtain⟨x,v,hK,hrun,hx⟩:=h
 unfold Oper.wp
 rw[hrun]
 exact bK.put hok hx hd hK
theorem aBT {s:Sem Value}{v:Value}{w':World} (h:s.run P w=.ok v w'):(do pure (Next.value (←s)):Sem Next).run P w=.ok (.value v) w':=by
 simp[h]
theorem uO {σ:St} (hok:OK C σ.f a w S ρ κ) {t:TypeId}{fs:Array Field}{z:Array Value}{ps:Array (Nat×Operand)}{rp:List (Nat×Nat×Operand)}{K:AV->Prop}
  (hu:P.underlying t=some (.struct fs)) (hz:zOf P t=some z) (hall:fs.all (λf=>(fO P f.type).isSome)=true) (hp:bpS P fs ps.toList=some rp) (hv:rd (evO (look σ.s)) (aA σ.h) K (.build (avs z) rp)) :
  Ans P S w ρ κ σ.f.h K (Instr.build t (ps.map λ(i,x)=>(i,a.eval x))):=by
 obtain⟨zv,hrun,rfl⟩:=sW hz w
 let places:Array (Nat×Nat):=fs.map λf=>(f.offset,(fO P f.type).getD 0)
 have hplaces:(fs.mapM λf=>(do pure (f.offset,←sizeOf f.type):Sem (Nat×Nat))).run P w=.ok places w:=by
  have key:∀(l:List Field) (acc:List (Nat×Nat)),(∀f,f∈l->(fO P f.type).isSome)->(l.mapM λf=>(do pure (f.offset,←sizeOf f.type):Sem (Nat×Nat))).run P w=.ok (l.map λf=>(f.offset,(fO P f.type).getD 0)) w:=by
   intro l
   induction l with
   |nil=>intro _ _;simp
   | cons f r ih =>
    intro acc hl
    obtain⟨n,hn⟩:=Option.isSome_iff_exists.1 (hl f (by simp))
    simp only[List.mapM_cons,Sem.run_bind,run_sizeOf hn,Result.andThen_ok,Sem.run_pure,ih acc (λg hg=>hl g (by simp[hg])),List.map_cons,hn,Option.getD_some]
  have:=key fs.toList [] (λf hf=>by
    have:=Array.all_eq_true'.1 hall f (by simpa using hf)
    exact this)
  rw[Array.mapM_eq_mapM_toList]
  simp only[Sem.run_map,this,Result.andThen_ok]
  congr 1
  apply Array.ext'
  simp[places]
 simp only[rd] at hv
 have hmap:ps.toList.map (λp=>((places[p.1]?:Option (Nat×Nat))).map λq=>(q.1,q.2,p.2))=rp.map some:=by
  revert hp
  generalize ps.toList=l
  clear hv
  induction l generalizing rp with
  |nil=>intro hp;simp[bpS] at hp;simp[hp]
  | cons p r ih =>
   grind [bpS]
 obtain⟨cs,vs,hK,hfill,hcs,_⟩:=wM hok (λi=>places[i]?) ps.toList rp _ _ hmap (nC zv.cells) hv
 refine⟨_,.agg vs,hK,?_,.agg _ _ hcs.1 hcs.2⟩
 have e:(ps.map λ(i,x)=>(i,a.eval x)).toList=ps.toList.map λp=>(p.1,a.eval p.2):=by simp
 simp only[Instr.build,Sem.run_bind,hrun,Result.andThen_ok,run_underlying hu,hplaces,e]
 rw[hfill]
 rfl
theorem wC {σ:St} (hok:OK C σ.f a w S ρ κ) {t e:TypeId}{m n:Nat}{z:Array Value}{ps:Array (Nat×Operand)}{K:AV->Prop}
  (hu:P.underlying t=some (.array m e)) (hz:zOf P t=some z) (hn:fO P e=some n) (hv:rd (evO (look σ.s)) (aA σ.h) K (.build (avs z) (ps.toList.map λp=>(p.1*n,n,p.2)))) :
  Ans P S w ρ κ σ.f.h K (Instr.build t (ps.map λ(i,x)=>(i,a.eval x))):=by
 obtain⟨zv,hrun,rfl⟩:=sW hz w
 simp only[rd] at hv
 obtain⟨cs,vs,hK,hfill,hcs,_⟩:=wM hok (λi=>some (i*n,n)) ps.toList _ _ _ (by simp) (nC zv.cells) hv
 refine⟨_,.agg vs,hK,?_,.agg _ _ hcs.1 hcs.2⟩
 have e':(ps.map λ(i,x)=>(i,a.eval x)).toList=ps.toList.map λp=>(p.1,a.eval p.2):=by simp
 simp only[Instr.build,Sem.run_bind,hrun,Result.andThen_ok,run_underlying hu,run_sizeOf hn,e']
 rw[hfill]
 rfl
theorem mU:∀{B:List Name},nodupB B=true->B.Nodup
 | [],_=>List.nodup_nil
 | n::r,h=>by
  simp only[nodupB,Bool.and_eq_true,Bool.not_eq_true',List.contains_eq_mem,decide_eq_false_iff_not] at h
  exact List.nodup_cons.2 ⟨h.1,mU h.2⟩
theorem yU {σ:St}{K:St->Prop}{o:Oper}{c:Call}{f:Operand}{bor:List Nat}{Q:Exit->Act->World->Prop} (hok:OK C σ.f a w S ρ κ) (hd:∀d',o.dst=some d'->d'<C.nt)
  (ho:o.op=.call c) (hc:c.callee=.value f)
  (hv:aV P o.dst σ K (.call f c.args.toList bor)):o.wp P a w (bK C K) Q:=by
 simp only[aV,yB] at hv
 split at hv
 .rename_i g caps hg
  have hf:=hok.ev f
  simp only[St.f] at hf
  rw[hg] at hf
  obtain⟨vs,hva,hl,hr⟩:=xN hf
  have hbody:lH P g:=by
   split at hv
   .obtain⟨_,r,hout,fz,hfn,_⟩:=hv
    exact hfn.1
   .exact hv.elim
  obtain⟨fn,b,h1,h2,h3⟩:=hbody
  have hrun:(execOp a.eval o).run P w=.ok (.enter g (c.args.map a.eval++vs)) w:=by
   simp[execOp,ho,resolve,hc,hva,Deferred.ofValue,invoke,callFunc,h1,h2,h3]
  unfold Oper.wp
  rw[hrun]
  simp only[Oper.upon]
  split at hv
  .rename_i ys L1 hin L2 hys hbs
   obtain⟨hnd,r,hout,fz,hfn,hflat,hfresh,hK⟩:=hv
   have hfr:∀j,(yF σ.h (c.args.toList.map (evO (look σ.s))) bor).length<=j->j<hout.length->bG (.t (o.dst.getD 0) j) σ=true:=by
    grind [iC]
   have hcall:=aBD (K:=fun σ' x=>∃σl:St,σl.f=σ'∧K ⟨put o.dst (rn (phi (yF σ.h (c.args.toList.map (evO (look σ.s))) bor) (o.dst.getD 0) hout.length) r) σ.s,σl.h⟩∧σl.s=σ.s∧x=rn (phi (yF σ.h (c.args.toList.map (evO (look σ.s))) bor) (o.dst.getD 0) hout.length) r) hok (d:=o.dst.getD 0) (f:=g) (caps:=caps) (xs:=c.args.toList.map (evO (look σ.s))) (mU hnd) (vs:=c.args.map a.eval++vs) (by
       simp only[aED,St.f,hys,hbs]
       refine⟨r,hout,fz,hfn,hflat,λj h1 h2=>bS (hfr j h1 h2),⟨σ.s,sH σ.h (yF σ.h (c.args.toList.map (evO (look σ.s))) bor) (o.dst.getD 0) hout fz (L1++L2)⟩,?_,hK,rfl,rfl⟩
       simp only[FSt.mk.injEq,true_and]
       refine aGB (λm hm=>?_) (λj h1 h2=>(bS (hfr j h1 h2)).1.1)
       obtain⟨_,hbj,_⟩:=oV _ _ hbs
       obtain⟨j,hj⟩:=List.mem_iff_getElem?.1 hm
       obtain⟨b0,_,_,hb0,_⟩:=hbj j m hj
       simp[hb0]) (by simp[hl]) (λj hj=>by
       simp only[List.length_append,List.length_map,Array.length_toList] at hj
       by_cases hj1:j<c.args.size
       . have e1:(c.args.toList.map (evO (look σ.s))++caps).getD j .junk=evO (look σ.s) c.args[j]:=by
           grind [look,St,Oper,Call]
         have e2:(c.args.map a.eval++vs).getD j undef=a.eval c.args[j]:=by simp[hj1,show j<c.args.size+vs.size by omega]
         rw[e1,e2];exact hok.ev _
       . have e1:(c.args.toList.map (evO (look σ.s))++caps).getD j .junk=caps.getD (j-c.args.size) .junk:=by
           grind
         have e2:(c.args.map a.eval++vs).getD j undef=vs.getD (j-c.args.size) undef:=by
           simp[Array.getElem?_append,hj1]
         rw[e1,e2];exact hr _ (by omega))
   refine hcall.mono ?_
   all_goals grind [bK.put]
  .exact hv.elim
 .exact hv.elim
end
section
variable [Envs]
variable {P:Program}{C:Ctx}{a:Act}{w:World}{S:Nat->Prop}{ρ:Name->Option Nat}{κ:Name->Nat}
theorem aX {σ:St}{K:St->Prop}{o:Oper}{Q:Exit->Act->World->Prop} (hok:OK C σ.f a w S ρ κ) (hd:∀d',o.dst=some d'->d'<C.nt) {s:Sem Value}
  (ho:execOp a.eval o=(do pure (Next.value (←s)))) (h:Ans P S w ρ κ σ.f.h (λv=>K ⟨put o.dst v σ.s,σ.h⟩) s):o.wp P a w (bK C K) Q:=by
 obtain⟨x,v,hK,hrun,hx⟩:=h
 exact oH hok hd ⟨x,v,hK,by rw[ho];exact aBT hrun,hx⟩
theorem qR {σ:St}{K:St->Prop}{o:Oper}{d:Nat}{Q:Exit->Act->World->Prop} (hdst:o.dst=some d) (hd:d<C.nt) {s:Sem Value}
  (ho:execOp a.eval o=(do pure (Next.value (←s))))
  (h:Made P C σ.f a w S (.t d 0) (λv b=>(bG (.t d 0) σ=true∧b.has (.t d 0)=false)∧K ⟨(d,v)::σ.s,(.t d 0,b)::σ.h⟩) s):o.wp P a w (bK C K) Q:=by
 obtain⟨x,b,v,w',⟨⟨h1,h2⟩,hK⟩,hrun,hok⟩:=h
 obtain⟨ρ',κ',hok',hx⟩:=hok (bS h1) h2
 have e:(St.mk σ.s ((.t d 0,b)::σ.h)).f=⟨σ.f.s,hput σ.f.h (.t d 0) (some b)⟩:=by
  simp only[St.f,FSt.mk.injEq,true_and]
  funext m;simp only[aA,hput]
 unfold Oper.wp
 rw[ho,aBT hrun]
 show bK C K (a.put o.dst v) w'
 rw[←e] at hok'
 rw[hdst]
 exact bK.put (σ:=⟨σ.s,(.t d 0,b)::σ.h⟩) hok' (by rw[e];exact hx) (λd' h=>by rw[←Option.some.inj h];exact hd) hK
theorem bare_eq {op op':AOp} (h:op.bare0=op'):(∃f args bor,op=.call f args bor∧op'=.call f args [])∨((∀f args bor,op≠.call f args bor)∧op=op'):=by
 cases op<;>simp only[AOp.bare0] at h<;>first
  |exact .inr ⟨by simp,h⟩
  |exact .inl ⟨_,_,_,rfl,h.symm⟩
theorem bT {op op':AOp} (h:some op'=some op.bare0) (hn:∀f args bor,op'≠.call f args bor:=by intro _ _ _ h;cases h):op=op':=by
 rcases bare_eq (Option.some.inj h).symm with⟨f,args,bor,_,h⟩|⟨_,h⟩
 .exact absurd h (hn _ _ _)
 .exact h
theorem aAP {T:TypeId}{g:Bool}{k:Nat} (h:pV P T=some (g,k)):eT P T=some g:=by
 unfold pV at h
 split at h
 .rename_i n h1 h2
  simp only[Option.some.injEq,Prod.mk.injEq] at h
  rw[h1,h.1]
 .rename_i n h1 h2
  simp only[Option.some.injEq,Prod.mk.injEq] at h
  rw[h1,h.1]
 .cases h
theorem aBI {α:Type}{x:Array α}{p q:α} (h:x.toList=[p,q]):x=#[p,q]:=by
 apply Array.ext';simpa using h
theorem arr1 {α:Type}{x:Array α}{p:α} (h:x.toList=[p]):x=#[p]:=by
 apply Array.ext';simpa using h
theorem aAy {o:Oper}{c:Call}{b:Builtin} (ho:o.op=.call c) (hc:c.callee=.builtin b) :
  execOp a.eval o=builtin b c.argTypes o.type (c.args.map fun|.const _=>true|_=>false) (c.args.map a.eval):=by
 simp only[execOp,ho,resolve,hc]
 rfl
theorem j6 {σ:St}{K:St->Prop}{o:Oper}{op:AOp}{Q:Exit->Act->World->Prop} (hc:comp P o.op=some op.bare0) (hok:OK C σ.f a w S ρ κ) (hd:∀d',o.dst=some d'->d'<C.nt)
  (hv:aV P o.dst σ K op):o.wp P a w (bK C K) Q:=by
 generalize hop:o.op=oop at hc
 cases oop
 case move x =>
  obtain rfl:=bT hc
  exact oH hok hd ⟨_,_,hv,by simp[execOp,hop],hok.ev x⟩
 case assign x =>
  obtain rfl:=bT hc
  exact oH hok hd ⟨_,_,hv,by simp[execOp,hop],hok.ev x⟩
 case pick c x y =>
  obtain rfl:=bT hc
  have hcv:=hok.ev c
  simp only[aV,rd] at hv
  split at hv
  .rename_i t ht
   rw[show evO σ.f.s c=_ from ht] at hcv
   have:=aZ hcv
   cases t
   .exact oH hok hd ⟨_,_,hv.2 rfl,by simp[execOp,hop,this,asBool],hok.ev y⟩
   .exact oH hok hd ⟨_,_,hv.1 rfl,by simp[execOp,hop,this,asBool],hok.ev x⟩
  .exact hv.elim
 case alloc t =>
  simp only[comp] at hc
  cases hz:zOf P t with
  |none=>rw[hz] at hc;cases hc
  | some z =>
   rw[hz] at hc
   obtain rfl:=bT hc
   simp only[aV] at hv
   split at hv
   .rename_i d hdst
    exact qR hdst (hd d hdst) (by simp only[execOp,hop]) (aEL hok hz hv)
   .exact hv.elim
 case box t x =>
  obtain rfl:=bT hc
  simp only[aV] at hv
  split at hv
  .rename_i d hdst
   exact qR hdst (hd d hdst) (by simp only[execOp,hop]) (aGz (T:=t) hok hv)
  .exact hv.elim
 case build t ps =>
  simp only[comp] at hc
  split at hc
  .rename_i fs z hu hz
   split at hc
   .rename_i hall
    cases hp:bpS P fs ps.toList with
    |none=>rw[hp] at hc;cases hc
    | some rp =>
     rw[hp] at hc
     obtain rfl:=bT hc
     exact aX hok hd (by simp only[execOp,hop]) (uO hok hu hz hall hp hv)
   .cases hc
  .rename_i m e z hu hz
   cases hn:fO P e with
   |none=>rw[hn] at hc;cases hc
   | some n =>
    rw[hn] at hc
    obtain rfl:=bT hc
    exact aX hok hd (by simp only[execOp,hop]) (wC hok hu hz hn hv)
  .cases hc
 case buildSlice t m ps =>
  simp only[comp] at hc
  split at hc
  .rename_i e hu
   split at hc
   .rename_i k z hk hz
    obtain rfl:=bT hc
    simp only[aV] at hv
    split at hv
    .rename_i d hdst
     refine qR (σ:=σ) (S:=S) (K:=K) hdst (hd d hdst) (s:=Instr.buildSlice t m (ps.map λ(i,x)=>(i,a.eval x))) (by simp only[execOp,hop]) ?_
     have:=aDc hok hu hk hz hv
     have e1:(ps.toList.map λp=>(p.1,a.eval p.2)).toArray=ps.map λ(i,x)=>(i,a.eval x):=by
      apply Array.ext';simp
     rw[e1] at this
     exact this
    .exact hv.elim
   .cases hc
  .cases hc
 case load t x =>
  simp only[comp] at hc
  cases hl:pV P t with
  |none=>rw[hl] at hc;cases hc
  | some p =>
   rw[hl] at hc
   obtain rfl:=bT hc
   exact aX hok hd (by simp only[execOp,hop]) (aBW hok hl hv)
 case store t A X =>
  simp only[comp] at hc
  cases hl:fO P t with
  |none=>rw[hl] at hc;cases hc
  | some k =>
   rw[hl] at hc
   obtain rfl:=bT hc
   obtain⟨hdn,hv⟩:=hv
   have:=aDd hok (A:=A) (X:=X) hl (K:=λh'=>∃l,aA l=h'∧K ⟨σ.s,l⟩) (by
     simp only[wrS,St.f]
     split at hv
     . rename_i n e c hA
       rw[hA]
       split at hv
       . rename_i b cs hb hcs
         simp only[hb,hcs]
         exact⟨hv.1,_,oP _ _ _,hv.2⟩
       . exact hv.elim
     . exact hv.elim)
   obtain⟨h',w',⟨l,rfl,hK⟩,hrun,hok'⟩:=this
   unfold Oper.wp
   have hr:(execOp a.eval o).run P w=.ok .skip w':=by simp[execOp,hop,hrun]
   rw[hr]
   simp only[Oper.upon,hdn,Act.put]
   exact⟨⟨σ.s,l⟩,S,ρ,κ,hK,hok'⟩
 case nilCheck x =>
  obtain rfl:=bT hc
  exact oH hok hd (aEV hok hop hv)
 case binOp op t x y yt =>
  simp only[comp] at hc
  split at hc
  .simp only[Option.some.injEq] at hc
   obtain rfl:=bT (congrArg some hc)
   exact aX hok hd (by simp only[execOp,hop]) (aFZ (t:=t) hok hv)
  .simp only[Option.some.injEq] at hc
   obtain rfl:=bT (congrArg some hc)
   exact aX hok hd (by simp only[execOp,hop]) (aE1 (t:=t) hok hv)
  .rename_i hu
   obtain rfl:=bT hc
   exact aX hok hd (by simp only[execOp,hop]) (aE2 hok hu hv)
  .rename_i hu
   split at hc
   .rename_i ks hks
    split at hc
    .rename_i hgg
     split at hc
     .simp only[Option.some.injEq] at hc
      obtain rfl:=bT (congrArg some hc)
      exact aX hok hd (by simp only[execOp,hop]) (aDB hok (.inl ⟨rfl,rfl⟩) hks hgg.1 hgg.2 hv)
     .simp only[Option.some.injEq] at hc
      obtain rfl:=bT (congrArg some hc)
      exact aX hok hd (by simp only[execOp,hop]) (aDB hok (.inr ⟨rfl,rfl⟩) hks hgg.1 hgg.2 hv)
     .cases hc
    .cases hc
   .cases hc
  .cases hc
 case unOp op t x =>
  obtain rfl:=bT hc
  exact aX hok hd (by simp only[execOp,hop]) (rd_un hok hv)
 case convert s d x =>
  simp only[comp] at hc
  split at hc
  .rename_i h1 h2
   obtain rfl:=bT hc
   exact aX hok hd (by simp only[execOp,hop]) (aE0 hok h1 h2 hv)
  .rename_i e h1 h2
   split at hc
   .rename_i h3
    obtain rfl:=bT hc
    exact aX hok hd (by simp only[execOp,hop]) (aF0 hok h1 h3 h2 hv)
   .cases hc
  .cases hc
 case makeFunc fn first caps =>
  cases fn
  case func g =>
   simp only[comp] at hc
   split at hc
   .rename_i hsz
    obtain rfl:=bT hc
    have hf0:first=#[]:=Array.eq_empty_of_size_eq_zero hsz
    have:=aEW (P:=P) (w:=w) (K:=λv=>K ⟨put o.dst v σ.s,σ.h⟩) hok hv
    refine aX hok hd (s:=Instr.makeFunc (.func g) #[] (caps.map a.eval)) (by simp only[execOp,hop,hf0,List.map_toArray,List.map_nil]) ?_
    simpa using this
   .cases hc
  all_goals simp[comp] at hc
 case makeSlice t l c =>
  simp only[comp] at hc
  split at hc
  .rename_i hlc
   obtain rfl:=aDt hlc
   split at hc
   .rename_i e hu
    split at hc
    .rename_i i hi
     split at hc
     .rename_i z hz
      obtain rfl:=bT hc
      simp only[aV] at hv
      split at hv
      .rename_i d hdst
       exact qR hdst (hd d hdst) (by simp only[execOp,hop]) (al_mk hok hu hi hz hv)
      .exact hv.elim
     .cases hc
    .cases hc
   .cases hc
  .cases hc
 case slice t x lo hi mx =>
  cases mx
  case none =>
   simp only[comp] at hc
   split at hc
   .rename_i e hu
    cases hk:fO P e with
    |none=>rw[hk] at hc;cases hc
    | some k =>
     rw[hk] at hc
     obtain rfl:=bT hc
     exact aX hok hd (by simp only[execOp,hop];rfl) (aFX hok hu hk hv)
   .rename_i hu
    obtain rfl:=bT hc
    exact aX hok hd (by simp only[execOp,hop];rfl) (aEU hok hu hv)
   .cases hc
  case some=>simp[comp] at hc
 case fieldAddr s x i =>
  simp only[comp] at hc
  split at hc
  .rename_i f hf
   split at hc
   .rename_i n hn
    obtain rfl:=bT hc
    exact aX hok hd (by simp only[execOp,hop]) (zR hok hf hn (by omega) hv)
   .cases hc
  .cases hc
 case field s x i =>
  simp only[comp] at hc
  split at hc
  .rename_i f hf
   cases hl:pV P f.type with
   |none=>rw[hl] at hc;cases hc
   | some p =>
    obtain⟨g,n⟩:=p
    rw[hl] at hc
    simp only[Option.bind_some] at hc
    split at hc
    .rename_i hs
     obtain rfl:=bT hc
     have hg:=aAP hl
     exact aX hok hd (by simp only[execOp,hop]) (aDA hok hf hs hg (λh=>tZ (h ▸ hl)) hv)
    .cases hc
  .cases hc
 case indexAddr t x i =>
  simp only[comp] at hc
  split at hc
  .rename_i e hu
   cases hk:fO P e with
   |none=>rw[hk] at hc;cases hc
   | some k =>
    rw[hk] at hc
    obtain rfl:=bT hc
    exact aX hok hd (by simp only[execOp,hop]) (aDz hok hu hk hv)
  .rename_i n e hu
   cases hk:fO P e with
   |none=>rw[hk] at hc;cases hc
   | some k =>
    rw[hk] at hc
    obtain rfl:=bT hc
    exact aX hok hd (by simp only[execOp,hop]) (aCG hok hu hk hv)
  .cases hc
 case index t x i =>
  simp only[comp] at hc
  split at hc
  .rename_i hu
   obtain rfl:=bT hc
   exact aX hok hd (by simp only[execOp,hop]) (aCF hok hu hv)
  .rename_i n e hu
   cases hl:pV P e with
   |none=>rw[hl] at hc;cases hc
   | some p =>
    obtain⟨g,k⟩:=p
    rw[hl] at hc
    simp only[Option.bind_some] at hc
    split at hc
    .rename_i hs
     obtain rfl:=bT hc
     have hg:=aAP hl
     exact aX hok hd (by simp only[execOp,hop]) (aCH hok hu hs hg (λh=>tZ (h ▸ hl)) hv)
    .cases hc
  .cases hc
 case extract x i =>
  obtain rfl:=bT hc
  exact aX hok hd (by simp only[execOp,hop]) (aBn hok hv)
 case call c =>
  simp only[comp] at hc
  split at hc
  .rename_i b hcal
   have hb:=aAy (a:=a) hop hcal
   unfold mZ at hc
   split at hc
   .rename_i t x hts hxs
    have e1:=arr1 hts
    have e2:=arr1 hxs
    split at hc
    .rename_i e hu
     obtain rfl:=bT hc
     exact aX hok hd (s:=Builtin.len_ #[t] o.type #[a.eval x]) (by rw[hb,e1,e2];simp only[builtin,List.map_toArray,List.map_cons,List.map_nil]) (aFY hok hu hv)
    .rename_i hu
     obtain rfl:=bT hc
     exact aX hok hd (s:=Builtin.len_ #[t] o.type #[a.eval x]) (by rw[hb,e1,e2];simp only[builtin,List.map_toArray,List.map_cons,List.map_nil]) (aEX hok hu hv)
    .rename_i n e hu
     obtain rfl:=bT hc
     exact aX hok hd (s:=Builtin.len_ #[t] o.type #[a.eval x]) (by rw[hb,e1,e2];simp only[builtin,List.map_toArray,List.map_cons,List.map_nil]) (aEY _ hu hv)
    .cases hc
   .rename_i t t2 A X hts hxs
    have e1:=aBI hts
    have e2:=aBI hxs
    split at hc
    .rename_i e e2' hu hu2
     split at hc
     .rename_i i hi
      split at hc
      .rename_i z hz
       split at hc
       .rename_i hzs
        obtain rfl:=bT hc
        simp only[aV] at hv
        split at hv
        .rename_i d hdst
         split at hv
         .rename_i on l l' hbo hro
          obtain⟨⟨hf,h1,h2⟩,hK⟩:=hv
          have hwr:=aCw (P:=P) (ty:=o.type) hok (K:=fun σ' x=>∃σl:St,σl.f=σ'∧K ⟨(d,x)::σl.s,σl.h⟩) hu hu2 hi hz hzs (A:=A) (X:=X) (d:=.t d 0) (λon' l2 hbo'=>by
            simp only[St.f] at hbo'
            rw[hbo] at hbo'
            simp only[Option.some.injEq,Prod.mk.injEq] at hbo'
            obtain⟨rfl,rfl⟩:=hbo'
            have:=bS hf
            rw[aAV] at this;exact this) (by
            simp only[wrA,St.f,hbo,hro]
            refine⟨⟨h1,h2⟩,⟨(aK on σ).s,(.t d 0,.arr i.size (l++l') false)::(aK on σ).h⟩,?_,hK⟩
            have hkf:=aAV on σ
            have k1:look (aK on σ).s=(vQ on ⟨look σ.s,aA σ.h⟩).s:=congrArg FSt.s hkf
            have k2:aA (aK on σ).h=(vQ on ⟨look σ.s,aA σ.h⟩).h:=congrArg FSt.h hkf
            simp only[FSt.mk.injEq]
            refine⟨k1,?_⟩
            funext m
            simp only[aA,hput,←k2])
          obtain⟨σ',x,v,w',ρ',κ',⟨σl,rfl,hK'⟩,hrun,hok',hx⟩:=hwr
          unfold Oper.wp
          have hr:(execOp a.eval o).run P w=.ok (.value v) w':=by
           rw[hb,e1,e2]
           simp only[builtin,List.map_toArray,List.map_cons,List.map_nil]
           exact aBT hrun
          rw[hr]
          simp only[Oper.upon,hdst]
          exact bK.put hok' hx (d:=some d) (λd' h=>by rw[←Option.some.inj h];exact hd d hdst) hK'
         .exact hv.elim
        .exact hv.elim
       .cases hc
      .cases hc
     .cases hc
    .cases hc
   .rename_i t t2 x y hts hxs
    have e1:=aBI hts
    have e2:=aBI hxs
    obtain rfl:=bT hc
    exact aX hok hd (s:=Builtin.max_ #[t,t2] o.type #[a.eval x,a.eval y]) (by rw[hb,e1,e2];simp only[builtin,List.map_toArray,List.map_cons,List.map_nil]) (aFD (mx:=true) (t:=#[t,t2]) (T:=o.type) hok hv)
   .rename_i t t2 x y hts hxs
    have e1:=aBI hts
    have e2:=aBI hxs
    obtain rfl:=bT hc
    exact aX hok hd (s:=Builtin.min_ #[t,t2] o.type #[a.eval x,a.eval y]) (by rw[hb,e1,e2];simp only[builtin,List.map_toArray,List.map_cons,List.map_nil]) (aFD (mx:=false) (t:=#[t,t2]) (T:=o.type) hok hv)
   .rename_i t x hts hxs
    have e1:=arr1 hts
    have e2:=arr1 hxs
    split at hc
    .rename_i e hu
     split at hc
     .rename_i i hi
      split at hc
      .rename_i z hz
       obtain rfl:=bT hc
       have hwr:=aFR (P:=P) (ty:=o.type) hok hu hi hz (X:=x) (K:=λh'=>∃l,aA l=h'∧K ⟨Vs.put o.dst (.v (.tuple #[])) σ.s,l⟩) (by
         simp only[wrC,St.f]
         simp only[aV] at hv
         split at hv
         . rename_i n off len hA
           rw[hA]
           split at hv
           . rename_i k' l fz hbk
             simp only[hbk]
             exact⟨hv.1,_,oP _ _ _,hv.2⟩
           . exact hv.elim
         . exact hv.elim)
       obtain⟨h',w',⟨l,rfl,hK⟩,hrun,hok'⟩:=hwr
       unfold Oper.wp
       have hr:(execOp a.eval o).run P w=.ok (.value (.tuple #[])) w':=by
        rw[hb,e1,e2]
        simp only[builtin,List.map_toArray,List.map_cons,List.map_nil]
        exact aBT hrun
       rw[hr]
       exact bK.put (σ:=⟨σ.s,l⟩) hok' (.clo (.v _)) hd hK
      .cases hc
     .cases hc
    .cases hc
   .cases hc
  .rename_i f hcal
   split at hc
   .rename_i hix
    split at hc
    .rename_i x y hxy
     simp only[Option.some.injEq] at hc
     rcases bare_eq hc.symm with⟨f',args,bor,rfl,h⟩|⟨_,rfl⟩
     .cases h
     .exact oH hok hd (aEZ hok hop hcal (aBI hxy) hix hv)
    .cases hc
   .simp only[Option.some.injEq] at hc
    rcases bare_eq hc.symm with⟨f',args,bor,rfl,h⟩|⟨hn,h⟩
    .simp only[AOp.call.injEq] at h
     obtain⟨rfl,rfl,_⟩:=h
     exact yU hok hd hop hcal hv
    .exact absurd h (hn _ _ _)
  .rename_i f _ hcal
   simp only[Option.some.injEq] at hc
   rcases bare_eq hc.symm with⟨f',args,bor,rfl,h⟩|⟨hn,h⟩
   .simp only[AOp.call.injEq] at h
    obtain⟨rfl,rfl,_⟩:=h
    exact yU hok hd hop hcal hv
   .exact absurd h (hn _ _ _)
  .cases hc
 all_goals simp[comp] at hc
theorem OK.close {σ:FSt} (hok:OK C σ a w S ρ κ) {n:Name}{k d:Nat}{rows:List (List AV)}{z:Bool} (hb:σ.h n=some (.arr k rows z)) (hd:σ.s d=.loc n 0 rows.length) :
  OK C ⟨upd σ.s (some d) (.sl k rows),λm=>if m=n then none else σ.h m⟩ a w (λb=>S b∨ρ n=some b) ρ κ:=by
 have hS:∀b,S b->S b∨ρ n=some b:=λb h=>.inl h
 have hn:∀m,dK ρ ρ κ κ σ.h (λm=>if m=n then none else σ.h m) m:=by
  intro m b' hb'
  simp only at hb'
  split at hb'
  .cases hb'
  .exact⟨rfl,rfl,b',hb',b'.same_refl⟩
 have hsome:∀m,((λm=>if m=n then none else σ.h m) m).isSome->m≠n∧(σ.h m).isSome:=by
  intro m hm
  simp only at hm
  split at hm
  .cases hm
  .exact⟨by assumption,hm⟩
 have hv:=hok.slots d
 rw[hd] at hv
 have hc:=(rF hok.hok hS (E:=[]) (ρ':=ρ) (κ':=κ) (h':=σ.h) (by simp) 8 true (.loc n 0 rows.length) (.sl k ((rows.drop 0).take rows.length)) [n] _ (by simp[conv,gB,hb])
   (λm hm y hy=>by rw[List.mem_singleton.1 hm] at hy;exact .inr hy) hv).2.1 rfl
 rw[List.drop_zero,List.take_length] at hc
 refine ⟨hok.nt,hok.defers,λt=>?_,⟨λm b' hb'=>?_,λm m' y h1 h2 h3 h4=>hok.hok.inj m m' y (hsome m h1).2 (hsome m' h2).2 h3 h4,λb hb'=>?_,hok.hok.env.mono hS λ_ _=>rfl⟩,hok.size,hok.old,
   λm y h1 h2=>hok.mine m y (hsome m h1).2 h2,λb h=>.inl (hok.S0 b h),λb h=>?_,hok.out,λj b' hb'=>?_⟩
 .simp only[upd]
  split
  .subst_vars;exact .clo hc
  .exact(hok.slots t).mono hS (λ_ _=>rfl) λm _=>hn m
 .simp only at hb'
  split at hb'
  .cases hb'
  .rename_i hmn
   refine(hok.hok.blk m b' hb').mono hS (λx hx h=>?_) (λ_ _=>rfl) (λ_ _=>rfl) rfl rfl λm' _=>hn m'
   rcases h with h|h
   .exact h
   .exact absurd (hok.hok.inj m n x (by simp[hb']) (by simp[hb]) hx h) hmn
 .rcases hb' with h|h
  .exact hok.hok.dom b h
  .exact hok.hok.lt (n:=n) (by simp[hb]) h
 .rcases h with h|h
  .exact hok.Snew b h
  .exact .inr (hok.mine n b (by simp[hb]) h)
 .simp only at hb'
  split at hb'
  .cases hb'
  .exact hok.keep j b' hb'
theorem xX {σ:St}{K:St->Prop}{n:Name}{k d:Nat}{rows:List (List AV)}{z:Bool}{s:List (Nat×AV)}{h:List (Name×Blk)} (hσ:σ=⟨(d,.loc n 0 rows.length)::s,(n,.arr k rows z)::h⟩) (hn:aA h n=none)
  (hK:K ⟨(d,.sl k rows)::s,h⟩) (hok:OK C σ.f a w S ρ κ):bK C K a w:=by
 subst hσ
 have:=hok.close (n:=n) (k:=k) (d:=d) (rows:=rows) (z:=z) (by simp[St.f,aA]) (by simp[St.f,look])
 refine⟨⟨(d,.sl k rows)::s,h⟩,λb=>S b∨ρ n=some b,ρ,κ,hK,?_⟩
 have e1:(⟨upd (St.f ⟨(d,.loc n 0 rows.length)::s,(n,.arr k rows z)::h⟩).s (some d) (.sl k rows),λm=>if m=n then none else(St.f ⟨(d,.loc n 0 rows.length)::s,(n,.arr k rows z)::h⟩).h m⟩:FSt)=(⟨(d,.sl k rows)::s,h⟩:St).f:=by
  simp only[St.f,FSt.mk.injEq]
  refine⟨funext λt=>?_,funext λm=>?_⟩
  .simp only[upd,look]
   split<;>rfl
  .simp only[aA]
   split
   .subst_vars;exact hn.symm
   .rfl
 rw[e1] at this
 exact this
theorem qF {n:Name}{σ:St} (h:bG n σ=true):aA σ.h n=none:=(bS h).1.1
theorem oG {σ:St}{K:St->Prop}{o:Oper}{op:AOp}{Q:Exit->Act->World->Prop} (hc:comp P o.op=some op.bare) (hok:OK C σ.f a w S ρ κ) (hd:∀d',o.dst=some d'->d'<C.nt)
  (hv:aV P o.dst σ K op):o.wp P a w (bK C K) Q:=by
 by_cases h1:∃k y A X,op=.appendC k y A X
 .obtain⟨k,y,A,X,rfl⟩:=h1
  cases hds:o.dst with
  |none=>rw[hds] at hv;exact hv.elim
  | some d =>
   simp only[aV,hds] at hv
   split at hv
   .rename_i on l l' hA hX
    obtain⟨⟨hf,hsz⟩,hK⟩:=hv
    refine Oper.wp_mono (λa' w' ⟨σ',S',ρ',κ',hσ,hok'⟩=>?_) (j6 (P:=P) (op:=.append k y A X) (K:=fun σ'=>σ'=⟨(d,.loc (.t d 0) 0 (l.length+l'.length))::(aK on σ).s,(.t d 0,.arr k (l++l') false)::(aK on σ).h⟩) hc hok hd (by
      simp only[aV,hds,hA,hX]
      exact⟨⟨hf,hsz⟩,trivial⟩))
    exact xX (by rw[hσ,List.length_append]) (qF hf) hK hok'
   .exact hv.elim
 .by_cases h2:∃k m z ps,op=.bsliceC k m z ps
  .obtain⟨k,m,z,ps,rfl⟩:=h2
   cases hds:o.dst with
   |none=>rw[hds] at hv;exact hv.elim
   | some d =>
    simp only[aV,hds] at hv
    refine Oper.wp_mono (λa' w' ⟨σ',S',ρ',κ',⟨rows,hσ,hf,hK⟩,hok'⟩=>?_) (j6 (P:=P) (op:=.bslice k m z ps) (K:=fun σ'=>∃rows,σ'=⟨(d,.loc (.t d 0) 0 rows.length)::σ.s,(.t d 0,.arr k rows false)::σ.h⟩∧bG (.t d 0) σ=true∧K ⟨(d,.sl k rows)::σ.s,σ.h⟩) hc hok hd (by
      simp only[aV,hds]
      have:∀{K1 K2:AV->Blk->Prop}{op:AOp},(∀v b,K1 v b->K2 v b)->al (evO (look σ.s)) (aA σ.h) (.t d 0) K1 op->al (evO (look σ.s)) (aA σ.h) (.t d 0) K2 op:=by
        intro K1 K2 op hKK hk
        have lay:∀(ps:List (Nat×Nat×Operand)) (cs:List AV) {L1 L2:List AV->Prop},(∀c,L1 c->L2 c)->layAll (evO (look σ.s)) (aA σ.h) cs ps L1->layAll (evO (look σ.s)) (aA σ.h) cs ps L2:=by
          intro ps
          induction ps with
          |nil=>intro cs L1 L2 hh hk;exact hh _ hk
          | cons p r ih =>
            intro cs L1 L2 hh hk
            obtain⟨o,n,x⟩:=p
            simp only[layAll] at hk⊢
            split at hk
            . exact⟨hk.1,ih _ hh hk.2⟩
            . exact hk
        cases op<;>simp only[al] at hk⊢<;> try exact hk
        . split at hk
          . exact hKK _ _ hk
          . exact hk
        . exact⟨hk.1,hKK _ _ hk.2⟩
        . exact⟨hk.1,lay _ _ (λc hc=>⟨hc.1,hKK _ _ hc.2⟩) hk.2⟩
        . split at hk
          . exact⟨hk.1,hKK _ _ hk.2⟩
          . exact hk
      refine this (λv b hvb=>?_) hv
      obtain⟨h1,rows,rfl,rfl,hK⟩:=hvb
      exact⟨h1,rows,rfl,h1.1,hK⟩))
    exact xX hσ (qF hf) hK hok'
  .by_cases h3:∃g k A,op=.loadV g k A
   .obtain⟨g,k,A,rfl⟩:=h3
    exact j6 (op:=.load g k A) hc hok hd (by simp only[aV] at hv⊢;exact aDy hv)
   .by_cases h4:∃f A,op=.fieldV f A
    .obtain⟨f,A,rfl⟩:=h4
     exact j6 (op:=.fieldAddr f A) hc hok hd (by simp only[aV] at hv⊢;exact aCI hv)
    .have e:op.bare=op.bare0:=by
      cases op<;>first
       |rfl
       |exact absurd ⟨_,_,_,_,rfl⟩ h1
       |exact absurd ⟨_,_,_,_,rfl⟩ h2
       |exact absurd ⟨_,_,_,rfl⟩ h3
       |exact absurd ⟨_,_,rfl⟩ h4
     exact j6 (by rw[hc,e]) hok hd hv
def aAm (t:Nat) (σ:St) (N:St->Prop):Prop:=match look σ.s t with
 | .loc n lo m=>match aA σ.h n with
  |some (.arr k rows _)=>(lo=0∧m=rows.length)∧N ⟨(t,.sl k rows)::(dA n σ).s,(dA n σ).h⟩
  |_=>False
 |_=>N σ
theorem aA7 {σ:St}{N:St->Prop}{t:Nat} (hv:aAm t σ N) (hok:OK C σ.f a w S ρ κ):bK C N a w:=by
 unfold aAm at hv
 split at hv
 .rename_i n lo m hl
  split at hv
  .rename_i k rows z hb
   obtain⟨⟨rfl,rfl⟩,hN⟩:=hv
   have h1:=(hok.close (n:=n) (k:=k) (d:=t) (rows:=rows) (z:=z) hb hl).kill n
   refine⟨_,λb=>S b∨ρ n=some b,ρ,κ,hN,?_⟩
   have e1:kI n ⟨upd σ.f.s (some t) (.sl k rows),λm=>if m=n then none else σ.f.h m⟩=(⟨(t,.sl k rows)::(dA n σ).s,(dA n σ).h⟩:St).f:=by
    simp only[kI,St.f,FSt.mk.injEq]
    refine⟨funext λu=>?_,funext λm=>?_⟩
    .simp only[upd,look]
     by_cases hu:u=t
     .subst hu;simp[scr,AV.has]
     .rw[if_neg hu,if_neg hu]
      exact(jB (scr n) (by simp[scr,AV.has]) _ u).symm
    .simp only[dA,mO]
     split<;>simp
   rw[e1] at h1
   exact h1
  .exact hv.elim
 .exact⟨σ,S,ρ,κ,hv,hok⟩
/-! ## another name for a block -/
def nmF (n m:Name) (x:Name):Option Name:=if x=n then some m else if x=m then none else some x
theorem OK.rename {σ:FSt} (hok:OK C σ a w S ρ κ) {n m:Name} (hnm:n≠m) (hm:σ.h m=none) (hmb:∀j,m≠.b j) :
  ∃ρ' κ',OK C ⟨λt=>rn (nmF n m) (σ.s t),λx=>if x=m then(σ.h n).map (rnB (nmF n m)) else if x=n then none else(σ.h x).map (rnB (nmF n m))⟩ a w S ρ' κ':=by
 let ρ':Name->Option Nat:=λx=>if x=m then ρ n else ρ x
 let κ':Name->Nat:=λx=>if x=m then κ n else κ x
 let h':Name->Option Blk:=λx=>if x=m then(σ.h n).map (rnB (nmF n m)) else if x=n then none else(σ.h x).map (rnB (nmF n m))
 have back:∀x b',h' x=some b'->∃y b,σ.h y=some b∧b'=rnB (nmF n m) b∧ρ' x=ρ y∧κ' x=κ y∧((x=m∧y=n)∨(x=y∧x≠m∧x≠n)):=by
  intro x b' hb
  simp only[h'] at hb
  split at hb
  .rename_i hx
   obtain⟨b,h1,h2⟩:=Option.map_eq_some_iff.1 hb
   exact⟨n,b,h1,h2.symm,by simp[ρ',hx],by simp[κ',hx],.inl ⟨hx,rfl⟩⟩
  .rename_i hx
   split at hb
   .cases hb
   .rename_i hx2
    obtain⟨b,h1,h2⟩:=Option.map_eq_some_iff.1 hb
    exact⟨x,b,h1,h2.symm,by simp[ρ',hx],by simp[κ',hx],.inr ⟨rfl,hx,hx2⟩⟩
 have hφ:∀x y,nmF n m x=some y->ρ' y=ρ x∧κ' y=κ x∧∀b',h' y=some b'->∃b,σ.h x=some b∧b.same b':=by
  intro x y hxy
  have hy:ρ' y=ρ x∧κ' y=κ x∧(h' y=(σ.h x).map (rnB (nmF n m))):=by
   simp only[nmF] at hxy
   split at hxy
   .rename_i hx
    obtain rfl:=Option.some.inj hxy
    exact⟨by simp[ρ',hx],by simp[κ',hx],by simp[h',hx]⟩
   .rename_i hx
    split at hxy
    .cases hxy
    .rename_i hx2
     obtain rfl:=Option.some.inj hxy
     exact⟨by simp[ρ',hx2],by simp[κ',hx2],by simp[h',hx,hx2]⟩
  refine⟨hy.1,hy.2.1,λb' hb=>?_⟩
  rw[hy.2.2] at hb
  obtain⟨b,h1,rfl⟩:=Option.map_eq_some_iff.1 hb
  exact⟨b,h1,tJ _ _⟩
 have hsome:∀x,(h' x).isSome->∃y,(σ.h y).isSome∧ρ' x=ρ y∧((x=m∧y=n)∨(x=y∧x≠m∧x≠n)):=by
  intro x hx
  obtain⟨b',hb⟩:=Option.isSome_iff_exists.1 hx
  obtain⟨y,b,h1,_,h2,_,h3⟩:=back x b' hb
  exact⟨y,by simp[h1],h2,h3⟩
 refine⟨ρ',κ',hok.nt,hok.defers,λt=>(hok.slots t).ren hφ,⟨λx b' hb=>?_,λx y z hx hy hxz hyz=>?_,hok.hok.dom,hok.hok.env⟩,hok.size,hok.old,λx z hx hz=>?_,hok.S0,hok.Snew,hok.out,λj b hb=>?_⟩
 .obtain⟨y,b,h1,rfl,h2,h3,_⟩:=back x b' hb
  have hbk:=hok.hok.blk y b h1
  cases b with
  | var c z =>
   obtain⟨u,cs,T,fr,g1,g2,g3,g4,g4',g5,g6,g7⟩:=hbk
   refine⟨u,cs,T,fr,by rw[h2];exact g1,g2,g3,g4,g4',by rw[h3];exact g5,by rw[bN];exact g6,λj hj=>?_⟩
   rw[bN] at hj
   rw[jA _ _ _ hj]
   exact⟨(g7 j hj).1,(g7 j hj).2.ren hφ⟩
  | arr k l z =>
   obtain⟨g0,g⟩:=hbk
   refine⟨g0,?_⟩
   rcases g with⟨g1,g2⟩|⟨u,cs,T,fr,g1,g2,g3,g4,g4',g5,g6,g7⟩
   .exact .inl ⟨by rw[h2];exact g1,g2⟩
   .exact .inr ⟨u,cs,T,fr,by rw[h2];exact g1,g2,g3,g4,g4',by rw[h3];exact g5,g6,g7⟩
 .obtain⟨x2,q1,q2,q3⟩:=hsome x hx
  obtain⟨y2,r1,r2,r3⟩:=hsome y hy
  have e:=hok.hok.inj x2 y2 z q1 r1 (by rw[←q2];exact hxz) (by rw[←r2];exact hyz)
  rcases q3 with⟨rfl,rfl⟩|⟨rfl,q4,q5⟩<;>rcases r3 with⟨rfl,rfl⟩|⟨rfl,r4,r5⟩
  .rfl
  .exact absurd e.symm r5
  .exact absurd e q5
  .exact e
 .obtain⟨y,q1,q2,_⟩:=hsome x hx
  exact hok.mine y z q1 (by rw[←q2];exact hz)
 .obtain⟨y,b0,h1,rfl,h2,h3,h4⟩:=back _ b hb
  rcases h4 with⟨h4,_⟩|⟨rfl,_,_⟩
  .exact absurd h4.symm (hmb j)
  .obtain⟨k1,k2,b1,k3,k4⟩:=hok.keep j b0 h1
   refine⟨by rw[h2];exact k1,by rw[h3];exact k2,b1,k3,?_⟩
   have:=tJ (nmF n m) b0
   revert k4 this
   cases b1<;>cases b0<;>simp[Blk.same,rnB]<;>omega
def oJ (n m:Name) (σ:St):St:=⟨σ.s.map λp=>(p.1,rn (nmF n m) p.2),σ.h.map λp=>(if p.1=n then m else p.1,rnB (nmF n m) p.2)⟩
theorem uW {n m:Name}:∀(l:List (Name×Blk)) (x:Name),aA l m=none->aA (l.map λp=>(if p.1=n then m else p.1,rnB (nmF n m) p.2)) x =
  if x=m then(aA l n).map (rnB (nmF n m)) else if x=n then none else(aA l x).map (rnB (nmF n m))
 | [],x,_=>by simp[aA]
 | (i,b)::r,x,h=>by
  simp only[aA] at h
  have hi:¬m=i:=λe=>by rw[if_pos e] at h;cases h
  rw[if_neg hi] at h
  have ih:=uW (n:=n) r x h
  simp only[List.map_cons,aA]
  by_cases hin:i=n
  .subst hin
   by_cases hx:x=m
   .subst hx;simp
   .by_cases hx2:x=i
    .subst hx2;rw[if_pos rfl,if_neg hx,ih,if_neg hx];simp[hx]
    .rw[if_pos rfl,if_neg hx,ih,if_neg hx,if_neg hx2,if_neg hx,if_neg hx2,if_neg hx2]
  .rw[if_neg hin]
   by_cases hx:x=m
   .subst hx
    rw[if_neg hi,ih,if_pos rfl,if_pos rfl,if_neg (λe=>hin e.symm)]
   .by_cases hx2:x=i
    .subst hx2
     rw[if_pos rfl,if_neg hx,if_neg hin,if_pos rfl];rfl
    .rw[if_neg hx2,ih,if_neg hx,if_neg hx,if_neg hx2]
def aB8 (t:Nat) (σ:St) (N:St->Prop):Prop:=match look σ.s t with
 | .loc n _ _=>if n=.t t 0 then N σ else match aA σ.h (.t t 0) with
  |none=>bG (.t t 0) σ=true∧N (oJ n (.t t 0) σ)
  |some _=>bG (.t t 0) (dA (.t t 0) σ)=true∧N (oJ n (.t t 0) (dA (.t t 0) σ))
 |_=>N σ
theorem y8 {σ:St}{N:St->Prop}{t:Nat}{n:Name} (hn:n≠.t t 0) (hf:bG (.t t 0) σ=true) (hN:N (oJ n (.t t 0) σ)) (hok:OK C σ.f a w S ρ κ):bK C N a w:=by
 have hf':=bS hf
 obtain⟨ρ',κ',h1⟩:=hok.rename (n:=n) (m:=.t t 0) hn hf'.1.1 (λj=>by simp)
 refine⟨_,S,ρ',κ',hN,?_⟩
 have e:(⟨λu=>rn (nmF n (.t t 0)) (σ.f.s u),λx=>if x=.t t 0 then(σ.f.h n).map (rnB (nmF n (.t t 0))) else if x=n then none else(σ.f.h x).map (rnB (nmF n (.t t 0)))⟩:FSt)=(oJ n (.t t 0) σ).f:=by
  simp only[St.f,oJ,FSt.mk.injEq]
  refine⟨funext λu=>(jB _ (by simp[rn]) _ u).symm,funext λx=>(uW _ x hf'.1.1).symm⟩
 rw[e] at h1
 exact h1
theorem aBp {σ:St}{N:St->Prop}{t:Nat} (hv:aB8 t σ N) (hok:OK C σ.f a w S ρ κ):bK C N a w:=by
 unfold aB8 at hv
 split at hv
 .rename_i n lo m hl
  split at hv
  .exact⟨σ,S,ρ,κ,hv,hok⟩
  .rename_i hn
   split at hv
   .exact y8 hn hv.1 hv.2 hok
   .have hk:=hok.kill (.t t 0)
    rw[←mX] at hk
    exact y8 hn hv.1 hv.2 hk
 .exact⟨σ,S,ρ,κ,hv,hok⟩
end
end Go.Vs
