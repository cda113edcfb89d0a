/- Functions that borrow a row, walked by pieces; a row that is handed over beside it. -/
import Derived.Test.YtfoddghhlagenaaGreatDoorVuX
set_option linter.all false
set_option maxHeartbeats 8000000
namespace Go.Vs
variable {P:Program}
variable [I:Envs]
theorem yM {b b2:Blk}{n:Name} (h:Hn [some b] n=some b2):n=.b 0∧b2=b:=by
 match n,h with
 |.b 0,h=>exact⟨rfl,by simpa[Hn] using h.symm⟩
 |.b (j+1),h=>simp[Hn] at h
 |.t _ _,h=>simp[Hn] at h
theorem Fn.shutB {f:FuncId}{k:Nat}{rows:List (List AV)}{ys:List AV}{b b':Blk} (h:Fn P f [b] ys (.agg [.loc (.b 1) 0 rows.length]) [some b',some (.arr k rows false)]) (hfl:∀r,r∈rows->iD r=true) (hb:∀n,b'.has n=false) :
  Fn P f [b] ys (.agg [.sl k rows]) [some b']:=by
 refine⟨h.1,λS w ρ κ vs hok hfz hvs hargs=>(h.2 S w ρ κ vs hok hfz hvs hargs).mono ?_⟩
 rintro e w' ⟨v,S',ρ',κ',rfl,hp,hr⟩
 obtain⟨us,rfl,hus,hur⟩:=lC hr
 have hb1:=hp.hok.blk (.b 1) (.arr k rows false) rfl
 have hl:=d9 (show RV S' w' ρ' κ' (Hn [some b',some (.arr k rows false)]) (.loc (.b 1) 0 rows.length) (us.getD 0 undef) from hur 0 (by simp))
 have ho:Own S' w' (ρ' (.b 1)) (κ' (.b 1)) k rows (us.getD 0 undef):=⟨λk' l' z' hl'=>by
   obtain⟨rfl,rfl,rfl⟩:k=k'∧rows=l'∧false=z':=by simpa using hl'
   exact hl k rows false rfl,hb1,hfl⟩
 refine⟨_,λy=>S' y∨ρ' (.b 1)=some y,ρ',κ',rfl,⟨⟨λn b2 h2=>?_,λn m y h1 h2 h3 h4=>?_,λy hy=>?_,hp.hok.env.mono (λ_ h=>.inl h) λ_ _=>rfl⟩,hp.size,hp.old,λy hy=>.inl (hp.sub y hy),λy hy=>?_,λj x hj hx=>?_,hp.out,λj b2 hj h2=>?_⟩,.clo (.agg _ us hus λj hj=>?_)⟩
 .obtain⟨rfl,rfl⟩:=yM h2
  have hb0:=hp.hok.blk (.b 0) b2 rfl
  refine hb0.mono (λ_ h=>.inl h) (λx hx hs=>?_) (λ_ _=>rfl) (λ_ _=>rfl) rfl rfl (λm hm=>by rw[hb m] at hm;cases hm)
  rcases hs with hs|hs
  .exact hs
  .have:=hp.hok.inj (.b 0) (.b 1) x rfl rfl hx hs
   cases this
 .obtain⟨b2,hb2⟩:=Option.isSome_iff_exists.1 h1
  obtain⟨b3,hb3⟩:=Option.isSome_iff_exists.1 h2
  rw[(yM hb2).1,(yM hb3).1]
 .rcases hy with hy|hy
  .exact hp.hok.dom y hy
  .exact hp.hok.lt (n:=.b 1) (by rfl) hy
 .rcases hy with hy|hy
  .exact hp.new y hy
  .exact .inr (hp.mine 1 y (by rfl) hy)
 .have:j=0:=by
   match j,hj with
   |0,_=>rfl
   |j+1,hj=>simp at hj
  subst this
  exact hp.mine 0 x (by rfl) hx
 .have hj0:j=0:=by simp at hj;omega
  subst hj0
  exact hp.keep 0 b2 hj h2
 .obtain rfl:j=0:=by simpa using hj
  exact(ho.mono (S':=λ_=>False) (λ_ _ h=>h) λ_ _=>rfl).rc.mono (λ_ h=>.inr h) λ_ _=>rfl
theorem zK {f:FuncId}{fn:Func}{body:Code}{ac:aD}{dr:Nat->Array Oper->Option (List Nat)}{hin:List Blk}{S:Nat->Prop}{w:World}{ρ:Name->Option Nat}{κ:Name->Nat} (hf:P.funcs[f]? = some fn) (hb:fn.body=some body) (hc:aU P fn.ntmps dr body=some ac.bare) (hz:zB fn.ntmps dr body=true) {args:List AV} (hna:args.length<=fn.ntmps)
  {vs:Array Value} (hok:HOK S w ρ κ (Hn (hin.map some))) (hvs:vs.size=args.length) (hargs:∀j,j<args.length->RV S w ρ κ (Hn (hin.map some)) (args.getD j .junk) (vs.getD j undef)) {R:Ending->World->Prop}
  (h : ∀a,OK ⟨fn.ntmps,w,S,nD ρ hin,λj=>ρ (.b j),λj=>κ (.b j),λj=>hin[j]?⟩ (⟨ini 0 args,rX 0 hin⟩:St).f a w S ρ κ->
    At P fn.ntmps dr ac (λe a' w'=>(e=.ret∨e=.normal)∧a'.defers=[]∧∃v,(results fn a'.tmps).run P w'=.ok v w'∧R (.returned v) w') a w):Calls P f vs w R:=by
 refine calls_of_wp hf hb ?_
 have hmem:∀n,((Hn (hin.map some)) n).isSome->∃j,j<hin.length∧n=.b j:=by
  intro n hn
  match n,hn with
  | .b j,hn =>
   refine⟨j,?_,rfl⟩
   rcases Nat.lt_or_ge j hin.length with h|h
   .exact h
   .simp[Hn,List.getD,List.getElem?_eq_none h] at hn
  |.t _ _,hn=>simp[Hn] at hn
 refine Code.wp_mono (λe a' w' hq=>?_) (h _ ?_ body hc hz)
 .obtain⟨rfl|rfl,h1,v,h2,h3⟩:=hq
  .exact⟨h1,v,h2,h3⟩
  .exact⟨h1,v,h2,h3⟩
 .refine⟨?_,rfl,λt=>?_,by simp only[St.f,gK];exact hok,Nat.le_refl _,λ_ _ _=>rfl,λn x h1 h2=>?_,λ_ h=>h,λb hb=>.inl hb,⟨rfl,rfl⟩,λj b hb=>?_⟩
  .simp only[Array.size_append,Array.size_replicate];omega
  .simp only[St.f,tY,Nat.zero_le,true_and,Nat.zero_add,Nat.sub_zero,gK]
   split
   .rename_i ht
    have e:(vs++Array.replicate (fn.ntmps-vs.size) undef).getD t undef=vs.getD t undef:=by
     have h1:t<vs.size:=by omega
     simp[Array.getElem?_append,h1]
    rw[e]
    exact hargs t ht
   .exact .junk _
  .simp only[St.f,gK] at h1
   obtain⟨j,hj,rfl⟩:=hmem n h1
   exact .inr ⟨j,hj,h2⟩
  .simp only[St.f,gK] at hb
   refine⟨rfl,rfl,b,?_,b.same_refl⟩
   show hin[j]? = some b
   have hb':(hin.map some).getD j none=some b:=hb
   cases hx:hin[j]? with
   |none=>rw[List.getD_eq_getElem?_getD,List.getElem?_map,hx] at hb';cases hb'
   |some b2=>rw[List.getD_eq_getElem?_getD,List.getElem?_map,hx] at hb';simpa using hb'
theorem OK.post {nt:Nat}{hin hout:List Blk}{S S':Nat->Prop}{w w':World}{ρ ρ':Name->Option Nat}{κ κ':Name->Nat}{σ:FSt}{a:Act} (hok:OK ⟨nt,w,S,nD ρ hin,λj=>ρ (.b j),λj=>κ (.b j),λj=>hin[j]?⟩ σ a w' S' ρ' κ')
  (hh:∀n b,Hn (hout.map some) n=some b->σ.h n=some b∧∀m,b.has m=false):Post S w ρ κ hin S' w' ρ' κ' (hout.map some):=by
 have hs:∀n,(Hn (hout.map some) n).isSome->(σ.h n).isSome:=λn hn=>by
  obtain⟨b,hb⟩:=Option.isSome_iff_exists.1 hn
  rw[(hh n b hb).1];rfl
 refine⟨⟨λn b hb=>?_,λn m x h1 h2 h3 h4=>hok.hok.inj n m x (hs n h1) (hs m h2) h3 h4,hok.hok.dom,hok.hok.env⟩,hok.size,hok.old,hok.S0,hok.Snew,λj x h1 h2=>hok.mine (.b j) x (hs (.b j) h1) h2,hok.out,λj b' hj hb'=>hok.keep j b' (hh (.b j) b' hb').1⟩
 exact(hok.hok.blk n b (hh n b hb).1).mono (λ_ h=>h) (λ_ _ h=>h) (λ_ _=>rfl) (λ_ _=>rfl) rfl rfl λm hm=>by rw[(hh n b hb).2 m] at hm;cases hm
def mid (A:List Value) (x:AV) (B:List Value):List AV:=A.map AV.v++x::B.map AV.v
theorem zY (A:List Value) (x:AV) (B:List Value):(mid A x B).length=A.length+(B.length+1):=by simp[mid]
theorem aFa (A:List Value) (x y:AV) (B:List Value):(mid A x B).set A.length y=mid A y B:=by
 unfold mid
 rw[List.set_append_right _ _ (by simp)]
 simp
theorem aFc (A:List Value) (x:AV) (B:List Value):((mid A x B).drop A.length).take 1=[x]:=by
 unfold mid
 rw[List.drop_append_of_le_length (by simp),List.drop_of_length_le (by simp)]
 simp
theorem aAM (A:List Value) (x:AV) (B:List Value):(mid A x B).getD A.length .junk=x:=by
 unfold mid
 simp
theorem aBq {f:AV->Option (AV×List Name)} (hf:∀v,f (.v v)=some (.v v,[])):∀A:List Value,bO f (A.map AV.v)=some (A.map AV.v,[])
 | []=>rfl
 |a::A=>by rw[List.map_cons,bO,hf a,aBq hf A];rfl
theorem aDT {f:AV->Option (AV×List Name)}{l l':List AV}{c c':List AV}{L L':List Name}:bO f l=some (c,L)->bO f l'=some (c',L')->bO f (l++l')=some (c++c',L++L'):=by
 induction l generalizing c L with
 | nil =>
  intro h h'
  simp only[bO,Option.some.injEq,Prod.mk.injEq] at h
  obtain⟨rfl,rfl⟩:=h
  simpa using h'
 | cons x r ih =>
  intro h h'
  simp only[bO] at h
  split at h
  .rename_i y L1 ys L2 h1 h2
   simp only[Option.some.injEq,Prod.mk.injEq] at h
   obtain⟨rfl,rfl⟩:=h
   rw[List.cons_append,bO,h1,ih h2 h']
   simp
  .cases h
theorem aDR {h:Name->Option Blk}{n:Nat}{E:List Name}{c:Bool}{A B:List Value}{x:AV}:bO (conv h (n+1) E c) (mid A x B)=match conv h (n+1) E c x with
  |some (y,L)=>some (mid A y B,L)
  |none=>none:=by
 have hv:∀v,conv h (n+1) E c (.v v)=some (.v v,[]):=λv=>by simp[conv]
 unfold mid
 cases hx:conv h (n+1) E c x with
 | none =>
  have:∀A:List Value,bO (conv h (n+1) E c) (A.map AV.v++x::B.map AV.v)=none:=by
   intro A
   induction A with
   |nil=>simp[bO,hx]
   |cons a A ih=>rw[List.map_cons,List.cons_append,bO,hv a,ih]
  exact this A
 | some p =>
  obtain⟨y,L⟩:=p
  have h1:=aBq hv A
  have h2:bO (conv h (n+1) E c) (x::B.map AV.v)=some (y::B.map AV.v,L++[]):=by rw[bO,hx,aBq hv B]
  rw[aDT h1 h2]
  simp
theorem aEe (n:Name):∀A:List Value,iL n (A.map AV.v)=false
 | []=>rfl
 |a::A=>by rw[List.map_cons,iL,aEe n A];rfl
theorem aFb (n:Name) (A:List Value) (x:AV) (B:List Value):iL n (mid A x B)=x.has n:=by
 unfold mid
 induction A with
 |nil=>simp[iL,aEe]
 |cons a A ih=>rw[List.map_cons,List.cons_append,iL,ih];rfl
theorem aFC (φ:Name->Option Name):∀A:List Value,rnL φ (A.map AV.v)=A.map AV.v
 | []=>rfl
 |a::A=>by rw[List.map_cons,rnL,aFC φ A];rfl
theorem aGe (φ:Name->Option Name) (A:List Value) (x:AV) (B:List Value):rnL φ (mid A x B)=mid A (rn φ x) B:=by
 unfold mid
 induction A with
 |nil=>simp[rnL,aFC]
 |cons a A ih=>rw[List.map_cons,List.cons_append,rnL,ih];rfl
theorem aE9 (A:List Value) (x:AV) (B:List Value):(mid A x B).flatMap eF=eF x:=by
 have h:∀A:List Value,(A.map AV.v).flatMap eF=[]:=λA=>by
  induction A with
  |nil=>rfl
  |cons a A ih=>rw[List.map_cons,List.flatMap_cons,ih];rfl
 unfold mid
 rw[List.flatMap_append,h A,List.flatMap_cons,h B]
 simp
theorem Fn.use {f:FuncId}{hin:List Blk}{args:List AV}{r:AV}{hout:List (Option Blk)} (h:Fn P f hin args r hout) (S:Nat->Prop) (w:World) (ρ:Name->Option Nat) (κ:Name->Nat) (vs:Array Value) (h1:HOK S w ρ κ (Hn (hin.map some))) (h2:∀b,b∈hin->b.fz=false) (h3:vs.size=args.length)
  (h4:∀j,j<args.length->RV S w ρ κ (Hn (hin.map some)) (args.getD j .junk) (vs.getD j undef)):Calls P f vs w λe w'=>∃v S' ρ' κ',e=.returned v∧Post S w ρ κ hin S' w' ρ' κ' hout∧RV S' w' ρ' κ' (Hn hout) r v:=h.2 S w ρ κ vs h1 h2 h3 h4
end Go.Vs
