/- Functions that borrow a row, walked by pieces; a row that is handed over beside it. -/
import Derived.Test.YtmiiohemehacjaaGreatDoorVuX
set_option linter.all false
set_option maxHeartbeats 8000000
namespace Go.Vs
variable {P:Program}
variable [I:Envs]
theorem aDH {b u:Blk}{n:Name} (h:Hn [some b] n=some u):n=.b 0∧u=b:=by
 match n,h with
 |.b 0,h=>exact⟨rfl,by simpa[Hn] using h.symm⟩
 |.b (j+1),h=>simp[Hn] at h
 |.t _ _,h=>simp[Hn] at h
theorem Fn.shutB {f:FuncId}{k:Nat}{rows:List (List AV)}{ys:List AV}{b J:Blk} (h:Fn P f [b] ys (.agg [.loc (.b 1) 0 rows.length]) [some J,some (.arr k rows false)]) (Y:∀r,r∈rows->nV r=true) (hb:∀n,J.has n=false) :
  Fn P f [b] ys (.agg [.sl k rows]) [some J]:=by
 refine⟨h.1,λS w ρ κ vs hd Z hg G=>(h.2 S w ρ κ vs hd Z hg G).mono ?_⟩;rintro e w' ⟨v,S',ρ',κ',rfl,hp,hr⟩;obtain⟨us,rfl,hf,he⟩:=qN hr;have O:=hp.hok.blk (.b 1) (.arr k rows false) rfl;have hl:=iE (show RV S' w' ρ' κ' (Hn [some J,some (.arr k rows false)]) (.loc (.b 1) 0 rows.length) (us.getD 0 undef) from he 0 (by simp))
 have ho:Own S' w' (ρ' (.b 1)) (κ' (.b 1)) k rows (us.getD 0 undef):=⟨λk' l' z' hc=>by
   obtain⟨rfl,rfl,rfl⟩:k=k'∧rows=l'∧false=z':=by simpa using hc
   exact hl k rows false rfl,O,Y⟩
 refine⟨_,λy=>S' y∨ρ' (.b 1)=some y,ρ',κ',rfl,⟨⟨λn L h2=>?_,λn m y h1 h2 h3 h4=>?_,λy u=>?_,hp.hok.env.mono (λ_ h=>.inl h) λ_ _=>rfl⟩,hp.size,hp.old,λy u=>.inl (hp.sub y u),λy u=>?_,λj x F hx=>?_,hp.out,λj L F h2=>?_⟩,.clo (.agg _ us hf λj F=>?_)⟩
 .obtain⟨rfl,rfl⟩:=aDH h2;have M:=hp.hok.blk (.b 0) L rfl;refine M.mono (λ_ h=>.inl h) (λx hx H=>?_) (λ_ _=>rfl) (λ_ _=>rfl) rfl rfl (λm hm=>by rw[hb m] at hm;cases hm);rcases H with H|H
  .exact H
  .have:=hp.hok.inj (.b 0) (.b 1) x rfl rfl hx H;cases this
 .obtain⟨L,U⟩:=AQ.1 h1;obtain⟨b3,V⟩:=AQ.1 h2;rw[(aDH U).1,(aDH V).1]
 .rcases u with u|u
  .exact hp.hok.dom y u
  .exact hp.hok.lt (n:=.b 1) (by rfl) u
 .rcases u with u|u
  .exact hp.new y u
  .exact .inr (hp.mine 1 y (by rfl) u)
 .have:j=0:=by
   match j,F with
   |0,_=>rfl
   |j+1,F=>simp at F
  subst this;exact hp.mine 0 x (by rfl) hx
 .have ha:j=0:=by simp at F;omega
  subst ha;exact hp.keep 0 L F h2
 .obtain rfl:j=0:=by simpa using F
  exact(ho.mono (S':=λ_=>False) (λ_ _ h=>h) λ_ _=>rfl).rc.mono (λ_ h=>.inr h) λ_ _=>rfl
theorem aEo {f:FuncId}{fn:Func}{u:Code}{ac:aF}{dr:Nat->Array Oper->Option (List Nat)}{hin:List Blk}{S:Nat->Prop}{w:World}{ρ:Name->Option Nat}{κ:Name->Nat} (Z:P.funcs[f]? = some fn) (J:fn.body=some u) (Y:bM P fn.ntmps dr u=some ac.bare) (hz:zB fn.ntmps dr u=true) {args:List AV} (ha:args.length<=fn.ntmps)
  {vs:Array Value} (U:HOK S w ρ κ (Hn (hin.map some))) (hd:vs.size=args.length) (H:∀j,j<args.length->RV S w ρ κ (Hn (hin.map some)) (args.getD j .junk) (vs.getD j undef)) {R:Ending->World->Prop}
  (h : ∀a,OK ⟨fn.ntmps,w,S,sO ρ hin,λj=>ρ (.b j),λj=>κ (.b j),λj=>hin[j]?⟩ (⟨ini 0 args,xW 0 hin⟩:St).f a w S ρ κ->
    At P fn.ntmps dr ac (λe O w'=>(e=.ret∨e=.normal)∧O.defers=[]∧∃v,(results fn O.tmps).run P w'=.ok v w'∧R (.returned v) w') a w):Calls P f vs w R:=by
 refine calls_of_wp Z J ?_
 have L:∀n,((Hn (hin.map some)) n).isSome->∃j,j<hin.length∧n=.b j:=by
  intro n M
  match n,M with
  | .b j,M =>
   refine⟨j,?_,rfl⟩;rcases Cw j hin.length with h|h
   .exact h
   .simp[Hn,List.getD,Cr h] at M
  |.t _ _,M=>simp[Hn] at M
 refine Code.wp_mono (λe O w' hq=>?_) (h _ ?_ u Y hz)
 .obtain⟨rfl|rfl,G,v,h2,V⟩:=hq
  .exact⟨G,v,h2,V⟩
  .exact⟨G,v,h2,V⟩
 .refine⟨?_,rfl,λt=>?_,by simp only[St.f,fI];exact U,AL _,λ_ _ _=>rfl,λn x G h2=>?_,λ_ h=>h,λb J=>.inl J,⟨rfl,rfl⟩,λj b J=>?_⟩
  .simp only[Array.size_append,Array.size_replicate];omega
  .simp only[St.f,aAZ,BX,Ci,BF,Nat.sub_zero,fI];split
   .rename_i ht
    have e:(vs++Array.replicate (fn.ntmps-vs.size) undef).getD t undef=vs.getD t undef:=by
     have G:t<vs.size:=by omega
     simp[CG,G]
    rw[e];exact H t ht
   .exact .junk _
  .simp only[St.f,fI] at G;obtain⟨j,hj,rfl⟩:=L n G;exact .inr ⟨j,hj,h2⟩
  .simp only[St.f,fI] at J;refine⟨rfl,rfl,b,?_,b.same_refl⟩;show hin[j]? = some b
   have F:(hin.map some).getD j none=some b:=J;cases hx:hin[j]? with
   |none=>rw[Bc,BQ,hx] at F;cases F
   |some b2=>rw[Bc,BQ,hx] at F;simpa using F
theorem OK.post {nt:Nat}{hin hout:List Blk}{S S':Nat->Prop}{w w':World}{ρ ρ':Name->Option Nat}{κ κ':Name->Nat}{σ:FSt}{a:Act} (u:OK ⟨nt,w,S,sO ρ hin,λj=>ρ (.b j),λj=>κ (.b j),λj=>hin[j]?⟩ σ a w' S' ρ' κ')
  (hh:∀n b,Hn (hout.map some) n=some b->σ.h n=some b∧∀m,b.has m=false):Post S w ρ κ hin S' w' ρ' κ' (hout.map some):=by
 have J:∀n,(Hn (hout.map some) n).isSome->(σ.h n).isSome:=λn V=>by
  obtain⟨b,F⟩:=AQ.1 V;rw[(hh n b F).1];rfl
 refine⟨⟨λn b F=>?_,λn m x G h2 O U=>u.hok.inj n m x (J n G) (J m h2) O U,u.hok.dom,u.hok.env⟩,u.size,u.old,u.S0,u.Snew,λj x G h2=>u.mine (.b j) x (J (.b j) G) h2,u.out,λj L Y H=>u.keep j L (hh (.b j) L H).1⟩;exact(u.hok.blk n b (hh n b F).1).mono (λ_ h=>h) (λ_ _ h=>h) (λ_ _=>rfl) (λ_ _=>rfl) rfl rfl λm M=>by rw[(hh n b F).2 m] at M;cases M
def mid (A:List Value) (x:AV) (B:List Value):List AV:=A.map AV.v++x::B.map AV.v
theorem aEM (A:List Value) (x:AV) (B:List Value):(mid A x B).length=A.length+(B.length+1):=by simp[mid]
theorem aLw (A:List Value) (x y:AV) (B:List Value):(mid A x B).set A.length y=mid A y B:=by
 unfold mid;rw[Dz _ _ (by simp)];simp
theorem aLy (A:List Value) (x:AV) (B:List Value):((mid A x B).drop A.length).take 1=[x]:=by
 unfold mid;rw[List.drop_append_of_le_length (by simp),List.drop_of_length_le (by simp)];simp
theorem aFs (A:List Value) (x:AV) (B:List Value):(mid A x B).getD A.length .junk=x:=by
 unfold mid;simp
theorem aGG {f:AV->Option (AV×List Name)} (u:∀v,f (.v v)=some (.v v,[])):∀A:List Value,dF f (A.map AV.v)=some (A.map AV.v,[])
 | []=>rfl
 |a::A=>by rw[AU,dF,u a,aGG u A];rfl
theorem aJZ {f:AV->Option (AV×List Name)}{l G:List AV}{c F:List AV}{L u:List Name}:dF f l=some (c,L)->dF f G=some (F,u)->dF f (l++G)=some (c++F,L++u):=by
 induction l generalizing c L with
 | nil =>
  intro h h';simp only[dF,Aj,AZ] at h;obtain⟨rfl,rfl⟩:=h;simpa using h'
 | cons x r ih =>
  intro h h';simp only[dF] at h;split at h
  .rename_i y L1 ys L2 H h2;simp only[Aj,AZ] at h;obtain⟨rfl,rfl⟩:=h;rw[Ad,dF,H,ih h2 h'];simp
  .cases h
theorem aJU {h:Name->Option Blk}{n:Nat}{E:List Name}{c:Bool}{A B:List Value}{x:AV}:dF (conv h (n+1) E c) (mid A x B)=match conv h (n+1) E c x with
  |some (y,L)=>some (mid A y B,L)
  |none=>none:=by
 have u:∀v,conv h (n+1) E c (.v v)=some (.v v,[]):=λv=>by simp[conv]
 unfold mid;cases hx:conv h (n+1) E c x with
 | none =>
  have:∀A:List Value,dF (conv h (n+1) E c) (A.map AV.v++x::B.map AV.v)=none:=by
   intro A
   induction A with
   |nil=>simp[dF,hx]
   |cons a A ih=>rw[AU,Ad,dF,u a,ih]
  exact this A
 | some p =>
  obtain⟨y,L⟩:=p;have F:=aGG u A;have h2:dF (conv h (n+1) E c) (x::B.map AV.v)=some (y::B.map AV.v,L++[]):=by rw[dF,hx,aGG u B]
  rw[aJZ F h2];simp
theorem aKg (n:Name):∀A:List Value,lJ n (A.map AV.v)=false
 | []=>rfl
 |a::A=>by rw[AU,lJ,aKg n A];rfl
theorem aLx (n:Name) (A:List Value) (x:AV) (B:List Value):lJ n (mid A x B)=x.has n:=by
 unfold mid
 induction A with
 |nil=>simp[lJ,aKg]
 |cons a A ih=>rw[AU,Ad,lJ,ih];rfl
theorem aMh (φ:Name->Option Name):∀A:List Value,rnL φ (A.map AV.v)=A.map AV.v
 | []=>rfl
 |a::A=>by rw[AU,rnL,aMh φ A];rfl
theorem aMX (φ:Name->Option Name) (A:List Value) (x:AV) (B:List Value):rnL φ (mid A x B)=mid A (rn φ x) B:=by
 unfold mid
 induction A with
 |nil=>simp[rnL,aMh]
 |cons a A ih=>rw[AU,Ad,rnL,ih];rfl
theorem aLv (A:List Value) (x:AV) (B:List Value):(mid A x B).flatMap bG=bG x:=by
 have h:∀A:List Value,(A.map AV.v).flatMap bG=[]:=λA=>by
  induction A with
  |nil=>rfl
  |cons a A ih=>rw[AU,AO,ih];rfl
 unfold mid;rw[List.flatMap_append,h A,AO,h B];simp
theorem Fn.use {f:FuncId}{hin:List Blk}{args:List AV}{r:AV}{hout:List (Option Blk)} (h:Fn P f hin args r hout) (S:Nat->Prop) (w:World) (ρ:Name->Option Nat) (κ:Name->Nat) (vs:Array Value) (u:HOK S w ρ κ (Hn (hin.map some))) (h2:∀b,b∈hin->b.fz=false) (F:vs.size=args.length)
  (G:∀j,j<args.length->RV S w ρ κ (Hn (hin.map some)) (args.getD j .junk) (vs.getD j undef)):Calls P f vs w λe w'=>∃v S' ρ' κ',e=.returned v∧Post S w ρ κ hin S' w' ρ' κ' hout∧RV S' w' ρ' κ' (Hn hout) r v:=h.2 S w ρ κ vs u h2 F G
end Go.Vs
