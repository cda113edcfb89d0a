/- Texts of o5, and how they are compared. -/
import Derived.Test.YtklmdppgonhflaaGreatDoorXuB
import Derived.Test.YtklmdppgonhflaaGreatDoorXwSb
import Derived.Test.YtklmdppgonhflaaGreatDoorVtR
import Derived.Test.YtklmdppgonhflaaGreatDoorVtO
import Derived.Test.YtklmdppgonhflaaGreatDoorXuF
import Derived.Test.YtklmdppgonhflaaGreatDoorXuR
set_option linter.all false
set_option maxHeartbeats 8000000
namespace Go.Proofs.YtklmdppgonhflaaGreatDoor
open Go.Vs
section
variable [Vs.Envs]
attribute [local irreducible] Vs.Fn
theorem iP {m:List Int}{j:Nat} (h:j<m.length):(E cI m).getD j []=[.v (.int .i64 (m.getD j 0))]:=by
 rw[aW h];simp[cI,List.getD,h]
theorem aI6 (m:List Int) (i j:Nat):((E cI m).set i [.v (.int .i64 (m.getD j 0))]).set j [.v (.int .i64 (m.getD i 0))]=E cI (swp m i j):=by
 simp[swp,E,Dc,cI]
theorem aAV {m:List Int} (i:Nat) {j:Nat} (hj:j<m.length) (v:AV):∃y,((E cI m).set i [v]).getD j []=[y]:=by
 by_cases h:i=j
 .subst h;exact⟨v,by simp[List.getD,E,hj]⟩
 .refine⟨.v (.int .i64 (m.getD j 0)),?_⟩;rw[A8,C9 h,←A8];rw[aW hj];simp[cI,List.getD,hj]
theorem addN {a b:Nat} (h:a+b<=4000000):IntKind.i64.wrap ((a:Int)+(b:Int))=((a+b:Nat):Int):=by rw[aI (by omega) (by omega)];omega
theorem yB {a b:Nat} (h:b<=a) (ha:a<=4000000):IntKind.i64.wrap ((a:Int)-(b:Int))=((a-b:Nat):Int):=by rw[aI (by omega) (by omega)];omega
theorem add1 {a:Nat} (h:a<=4000000):IntKind.i64.wrap ((a:Int)+1)=((a+1:Nat):Int):=by rw[aI (by omega) (by omega)];omega
theorem aKq {a:Nat} (h:1<=a) (ha:a<=4000000):IntKind.i64.wrap ((a:Int)-1)=((a-1:Nat):Int):=by rw[aI (by omega) (by omega)];omega
theorem half {a b:Nat} (h:a+b<=4000000):IntKind.i64.wrap ((IntKind.u64.wrap (((a+b:Nat):Int))).fdiv (2 ^ (min 1 64)))=(((a+b)/2:Nat):Int):=by
 rw[show(min 1 64:Nat)=1 from rfl]
 have e:IntKind.u64.wrap (((a+b:Nat):Int))=((a+b:Nat):Int):=by
  simp only[IntKind.wrap,IntKind.bits,IntKind.signed,Bool.false_and,AO,Bc];omega
 rw[e,Int.fdiv_eq_ediv_of_nonneg _ (by omega),aI (by omega) (by omega)];omega
theorem aBb {l:List Int}{i j:Nat} (hi:i<l.length) (hj:j<l.length):∀x,x∈swp l i j->x∈l:=by
 intro x hx;unfold swp at hx;rcases List.mem_or_eq_of_mem_set hx with h|rfl
 .rcases List.mem_or_eq_of_mem_set h with h|rfl
  .exact h
  .exact fJ hj
 .exact fJ hi
theorem aKn (n a b:Nat) (l:List Int):swR (n+1) a b l=swR n (a+1) (b+1) (swp l a b):=rfl
attribute [local irreducible] swp
theorem swapRange (g:FuncId) (caps:List AV) (hcaps:jN caps=true) (l:List Int) (a b n:Nat) (hl:l.length<=1048576) (ha:a+n<=l.length) (hb:b+n<=l.length) :
  Vs.Fn Tryz.prog F.iF [.arr 1 (E cI l) false] [.loc (.b 0) 0 l.length,.v (.int .i64 (a:Nat)),.v (.int .i64 (b:Nat)),.v (.int .i64 (n:Nat)),.fn g caps] (.tup []) [some (.arr 1 (E cI (swR n a b l)) false)]:=by
 refine fn1 Cd.swapR_int64__k [.b 0] [.arr 1 (E cI (swR n a b l)) false] λX=>?_;unfold Cd.iF;simp -dsimp only[go_sem];refine aP.at dM (X:={zz:Nat×(List Int) // zz.1<=n∧swR (n-zz.1) (a+zz.1) (b+zz.1) zz.2=swR n a b l∧zz.2.length=l.length}) (λzz=>[(10,.v (.int .i64 zz.1.1))]) (λzz=>[(.b 0,.arr 1 (E cI zz.1.2) false)]) (λzz=>n-zz.1.1) ⟨(0,l),by omega,⟨rfl,rfl⟩⟩ ?_ ?_
 .exact le0
 .rintro⟨⟨i,m⟩,hi,hg⟩;dsimp only at hi hg;simp -dsimp only[go_sem];refine Br.mk (λhc=>?_) λhc=>?_
  .have hlt:i<n:=Dq;have hw:=aJ hlt (by omega);obtain⟨hr,hlen⟩:=hg;have w1:=addN (a:=a) (b:=i) (by omega);have w2:=addN (a:=b) (b:=i) (by omega);have g1:=iP (m:=m) (j:=a+i) (by omega);have g2:=iP (m:=m) (j:=b+i) (by omega);have hs:=aI6 m (a+i) (b+i);have hln:(E cI m).length=l.length:=by rw[aH];exact hlen
   obtain⟨y,g3⟩:=aAV (m:=m) (a+i) (j:=b+i) (by omega) (.v (.int .i64 (m.getD (b+i) 0)));have hsl:(swp m (a+i) (b+i)).length=l.length:=by rw[eF];exact hlen
   rw[show n-i=(n-(i+1))+1 by omega,aKn] at hr
   repeat' first|simp -dsimp only[go_sem,hw,w1,w2,g1,g2,g3,hs,hln,Ad,Ac,Ai]|apply Br.mk<;>intro h<;>try simp -dsimp only[h]|refine aC ?_|refine aC9 ?_|fail
   all_goals first|omega|(exact nx (i+1,swp m (a+i) (b+i)) (⟨hr,hsl⟩))
  .have hge:i=n:=by
    have:¬i<n:=Dq;omega
   subst hge;simp -dsimp only[go_sem];rw[Cw] at hg;have hm:m=swR i a b l:=hg.1;rw[←hm];exact⟨⟨_,_,rfl,rfl⟩,λh=>h rfl⟩
attribute [local irreducible] swR
attribute [local go_sem] BF BG Ar Be Aj Ae in
theorem rotate (g:FuncId) (caps:List AV) (hcaps:jN caps=true) (l:List Int) (a m b:Nat) (hl:l.length<=1048576) (ham:a<m) (hmb:m<b) (hb:b<=l.length) :
  Vs.Fn Tryz.prog F.j6 [.arr 1 (E cI l) false] [.loc (.b 0) 0 l.length,.v (.int .i64 (a:Nat)),.v (.int .i64 (m:Nat)),.v (.int .i64 (b:Nat)),.fn g caps] (.tup []) [some (.arr 1 (E cI (rot m (b-a) (m-a) (b-m) l)) false)]:=by
 have w1:=yB (a:=m) (b:=a) (by omega) (by omega);have w2:=yB (a:=b) (b:=m) (by omega) (by omega);refine fn1 Cd.rotate_int64__k [.b 0] [.arr 1 (E cI (rot m (b-a) (m-a) (b-m) l)) false] λX=>?_;unfold Cd.j6;simp -dsimp only[go_sem,w1,w2];refine aP.at dM (X:={zz:Nat×Nat×List Int // (0<zz.1∧0<zz.2.1∧zz.1<=m∧m+zz.2.1<=b)∧zz.2.2.length=l.length∧∃f,zz.1+zz.2.1<=f∧rot m f zz.1 zz.2.1 zz.2.2=rot m (b-a) (m-a) (b-m) l}) (λzz=>[(10,.v (.int .i64 zz.1.1)),(11,.v (.int .i64 zz.1.2.1))]) (λzz=>[(.b 0,.arr 1 (E cI zz.1.2.2) false)]) (λzz=>zz.1.1+zz.1.2.1) ⟨(m-a,b-m,l),⟨by dsimp only;omega,by dsimp only;omega,by dsimp only;omega,by dsimp only;omega⟩,rfl,b-a,by dsimp only;omega,rfl⟩ ?_ ?_
 .exact le0
 .rintro⟨⟨i,j,d⟩,⟨hi0,hj0,him,hjb⟩,hd,f,hf,hr⟩;dsimp only at hi0 hj0 him hjb hd hf hr;have hdl:(E cI d).length=l.length:=by rw[aH];exact hd
  have w3:=yB (a:=m) (b:=i) (by omega) (by omega);have w4:=addN (a:=m) (b:=j) (by omega);have w5:=yB (a:=m+j) (b:=i) (by omega) (by omega);cases f with
  |zero=>omega
  |succ f =>
  rw[rot] at hr;by_cases he:i=j
  .subst he;rw[AP rfl] at hr;have e1:((i:Int) != (i:Int))=false:=by simp
   have CS:=swapRange g caps hcaps d (m-i) m i (by omega) (by omega) (by omega);rw[hd] at CS;simp -dsimp only[go_sem,w3,w4,w5,e1,hdl,hd,aG hcaps _ 6,aG hcaps _ 7,aU,bF,aT];refine⟨⟨rfl,aA.bor CS rfl ?_⟩,λh=>h rfl⟩;simp -dsimp only[go_sem,w3,w4,w5,hdl,hd,AJ,aU,bF,aT];rw[←hr];exact⟨_,_,rfl,rfl⟩
  .rw[AC he] at hr;have e1:((i:Int) != (j:Int))=true:=by simp;omega
   by_cases hgt:j<i
   .rw[AP hgt] at hr;have e2:decide ((i:Int)>(j:Int))=true:=by simp;omega
    have w6:=yB (a:=i) (b:=j) (by omega) (by omega);have CS:=swapRange g caps hcaps d (m-i) m j (by omega) (by omega) (by omega);rw[hd] at CS;simp -dsimp only[go_sem,w3,w4,w5,w6,e1,e2,hdl,hd,aG hcaps _ 6,aG hcaps _ 7,aU,bF,aT];refine⟨rfl,aA.bor CS rfl ?_⟩;simp -dsimp only[go_sem,w3,w4,w5,w6,hdl,hd,AJ,aU,bF,aT];exact⟨⟨(i-j,j,swR j (m-i) m d),⟨by dsimp only;omega,by dsimp only;omega,by dsimp only;omega,by dsimp only;omega⟩,by dsimp only;rw[lC];exact hd,f,by dsimp only;omega,hr⟩,by simp[Vs.LeL,Vs.look,aB,aQ,aK,Vs.hset,aL],by simp only;omega⟩
   .rw[AC hgt] at hr;have e2:decide ((i:Int)>(j:Int))=false:=by simp;omega
    have w6:=yB (a:=j) (b:=i) (by omega) (by omega);have CS:=swapRange g caps hcaps d (m-i) (m+j-i) i (by omega) (by omega) (by omega);rw[hd] at CS;simp -dsimp only[go_sem,w3,w4,w5,w6,e1,e2,hdl,hd,aG hcaps _ 6,aG hcaps _ 7,aU,bF,aT];refine⟨rfl,aA.bor CS rfl ?_⟩;simp -dsimp only[go_sem,w3,w4,w5,w6,hdl,hd,AJ,aU,bF,aT];exact⟨⟨(i,j-i,swR i (m-i) (m+j-i) d),⟨by dsimp only;omega,by dsimp only;omega,by dsimp only;omega,by dsimp only;omega⟩,by dsimp only;rw[lC];exact hd,f,by dsimp only;omega,hr⟩,by simp[Vs.LeL,Vs.look,aB,aQ,aK,Vs.hset,aL],by simp only;omega⟩
def aBB (P:Program) (g:FuncId) (caps:List AV) (cf:Int->Int->Int) (D:Int->Prop):Prop:=
 ∀x y,D x->D y->Vs.Fn P g [] (.v (.int .i64 x)::.v (.int .i64 y)::caps) (.v (.int .i64 (cf x y))) []
def ltf (cf:Int->Int->Int) (x y:Int):Bool:=decide (cf x y<0)
theorem mW {m:List Int}{D:Int->Prop} (h:∀x,x∈m->D x) {i:Nat} (hi:i<m.length):D (m.getD i 0):=h _ (fJ hi)
attribute [local irreducible] rot
theorem insertion (g:FuncId) (caps:List AV) (hcaps:jN caps=true) (cf:Int->Int->Int) (D:Int->Prop) (hc:aBB Tryz.prog g caps cf D) (l:List Int) (hD:∀x,x∈l->D x) (a b:Nat) (hl:l.length<=1048576) (hab:a<=b) (hb:b<=l.length) :
  Vs.Fn Tryz.prog F.fZ [.arr 1 (E cI l) false] [.loc (.b 0) 0 l.length,.v (.int .i64 (a:Nat)),.v (.int .i64 (b:Nat)),.fn g caps] (.tup []) [some (.arr 1 (E cI (rH (ltf cf) a b l)) false)]:=by
 have w1:=add1 (a:=a) (by omega);refine fn1 Cd.insort_int64__k [.b 0] [.arr 1 (E cI (rH (ltf cf) a b l)) false] λX=>?_;unfold Cd.fZ;simp -dsimp only[go_sem,w1];refine aP.at dM (X:={zz:Nat×List Int // (a+1<=zz.1)∧zz.2.length=l.length∧(∀x,x∈zz.2->D x)∧xJ (ltf cf) a (b-zz.1) zz.1 zz.2=rH (ltf cf) a b l}) (λzz=>[(8,.v (.int .i64 zz.1.1))]) (λzz=>[(.b 0,.arr 1 (E cI zz.1.2) false)]) (λzz=>b-zz.1.1) ⟨(a+1,l),by dsimp only;omega,rfl,hD,rfl⟩ ?_ ?_
 .exact le0
 .rintro⟨⟨i,m⟩,hai,hm,hDm,hr⟩;dsimp only at hai hm hDm hr;have hml:(E cI m).length=l.length:=by rw[aH];exact hm
  have w2:∀k:Nat,k<=i->i<b->IntKind.i64.wrap ((k:Int)+1)=((k+1:Nat):Int):=λk h1 h2=>add1 (by omega);simp -dsimp only[go_sem];refine Br.mk (λhlt=>?_) λhlt=>?_
  .have hib:i<b:=by simpa using hlt
   have w3:=w2 i (Au _) hib;rw[show b-i=(b-(i+1))+1 by omega,xJ] at hr;simp -dsimp only[go_sem];refine aP.at dM (X:={zz:Nat×List Int // (a<=zz.1∧zz.1<=i)∧zz.2.length=l.length∧(∀x,x∈zz.2->D x)∧xY (ltf cf) a zz.1 zz.2=xY (ltf cf) a i m}) (λzz=>[(9,.v (.int .i64 zz.1.1))]) (λzz=>[(.b 0,.arr 1 (E cI zz.1.2) false)]) (λzz=>zz.1.1) ⟨(i,m),⟨by dsimp only;omega,by dsimp only;omega⟩,hm,hDm,rfl⟩ ?_ ?_
   .exact le0
   .rintro⟨⟨j,d⟩,⟨haj,hji⟩,hd,hDd,hr2⟩;dsimp only at haj hji hd hDd hr2;have hdl:(E cI d).length=l.length:=by rw[aH];exact hd
    by_cases hja:j=a
    .have e1:decide ((j:Int)>(a:Int))=false:=by simp;omega
     repeat' first|simp -dsimp only[go_sem,w2,w3,e1,hdl,hd]|apply Br.mk<;>intro h<;>try simp -dsimp only[h]|refine aC ?_|refine aC9 ?_|fail
     rw[hja,aEB] at hr2;rw[←hr2] at hr;exact⟨⟨⟨(i+1,d),by dsimp only;omega,hd,hDd,hr⟩,by simp[Vs.LeL,Vs.look,aB,aQ,aK,Vs.hset,aL],by simp only;omega⟩,λh=>absurd rfl h⟩
    .have e1:decide ((j:Int)>(a:Int))=true:=by simp;omega
     obtain⟨j,rfl⟩:∃k,j=k+1:=⟨j-1,by omega⟩;have w4:=aKq (a:=j+1) (by omega) (by omega);have g1:=iP (m:=d) (j:=j+1) (by omega);have g2:=iP (m:=d) (j:=j) (by omega);rw[Nat.add_sub_cancel] at w4;have hcc:=hc _ _ (mW hDd (i:=j+1) (by omega)) (mW hDd (i:=j) (by omega));have hsw:=aI6 d (j+1) j;obtain⟨y,g3⟩:=aAV (m:=d) (j+1) (j:=j) (by omega) (.v (.int .i64 (d.getD j 0)));have hsl:(swp d (j+1) j).length=l.length:=by rw[eF];exact hd
     have hsD:∀x,x∈swp d (j+1) j->D x:=λx hx=>hDd x (aBb (by omega) (by omega) x hx);rw[xY] at hr2;by_cases hlt2:cf (d.getD (j+1) 0) (d.getD j 0)<0
     .have e2:decide (cf (d.getD (j+1) 0) (d.getD j 0)<0)=true:=A9 hlt2;rw[AP ⟨by omega,e2⟩] at hr2
      repeat' first|simp -dsimp only[go_sem,w3,w4,e1,e2,g1,g2,g3,hsw,hdl,hd,aG hcaps _ 6,aG hcaps _ 7,Ad,Ac,Ai]|apply Br.mk<;>intro h<;>try simp -dsimp only[h]|refine aA.c (by first|exact hcc) ?_|refine aC ?_|refine aC9 ?_|fail
      all_goals first|omega|(exact⟨⟨(j,swp d (j+1) j),⟨by dsimp only;omega,by dsimp only;omega⟩,hsl,hsD,hr2⟩,by simp[Vs.LeL,Vs.look,aB,aQ,aK,Vs.hset,aL],by simp only;omega⟩)
     .have e2:decide (cf (d.getD (j+1) 0) (d.getD j 0)<0)=false:=AQ hlt2;rw[AC (λh=>hlt2 (by simpa[ltf] using h.2))] at hr2;rw[←hr2] at hr
      repeat' first|simp -dsimp only[go_sem,w3,w4,e1,e2,g1,g2,g3,hsw,hdl,hd,aG hcaps _ 6,aG hcaps _ 7,Ad,Ac,Ai]|apply Br.mk<;>intro h<;>try simp -dsimp only[h]|refine aA.c (by first|exact hcc) ?_|refine aC ?_|refine aC9 ?_|fail
      all_goals first|omega|(exact⟨⟨⟨(i+1,d),by dsimp only;omega,hd,hDd,hr⟩,by simp[Vs.LeL,Vs.look,aB,aQ,aK,Vs.hset,aL],by simp only;omega⟩,λh=>absurd rfl h⟩)
  .have hz:b-i=0:=by
    have:¬i<b:=by simpa using hlt
    omega
   rw[hz,xJ] at hr;simp -dsimp only[go_sem];rw[←hr];exact⟨⟨_,_,rfl,rfl⟩,λh=>h rfl⟩
end
section
variable [Vs.Envs]
attribute [local irreducible] Vs.Fn swp swR rot xJ xY mvU mvD smg
theorem aD0 (p:Nat->Bool):∀(n i j:Nat),j-i<=n->i<=j->i<=bs p i j∧bs p i j<=j
 |0,i,j,h,hij=>by rw[uP p (by omega)];omega
 | n+1,i,j,h,hij=>by
  by_cases hlt:i<j
  .cases hp:p ((i+j)/2)
   .rw[aER p hlt hp];have:=aD0 p n i ((i+j)/2) (by omega) (by omega);omega
   .rw[aB5 p hlt hp];have:=aD0 p n ((i+j)/2+1) j (by omega) (by omega);omega
  .rw[uP p hlt];omega
theorem aIx:∀(n k:Nat) (l:List Int),k+n<l.length->∀x,x∈mvU n k l->x∈l
 |0,_,_,_,x,h=>by unfold mvU at h;exact h
 | n+1,k,l,hk,x,h=>by
  unfold mvU at h;exact aBb (by omega) (by omega) x (aIx n (k+1) _ (by rw[eF];omega) x h)
theorem aK8 (n k:Nat) (l:List Int):mvU (n+1) k l=mvU n (k+1) (swp l k (k+1)):=by rw[mvU]
theorem aLa (n k:Nat) (l:List Int):mvD (n+1) k l=mvD n (k-1) (swp l k (k-1)):=by rw[mvD]
theorem aCP:∀(n a b:Nat) (l:List Int),a+n<=l.length->b+n<=l.length->∀x,x∈swR n a b l->x∈l
 |0,_,_,_,_,_,x,h=>by unfold swR at h;exact h
 | n+1,a,b,l,ha,hb,x,h=>by
  unfold swR at h;exact aBb (by omega) (by omega) x (aCP n (a+1) (b+1) _ (by rw[eF];omega) (by rw[eF];omega) x h)
theorem aBc (m:Nat):∀(f i j:Nat) (l:List Int),i<=m->m+j<=l.length->∀x,x∈rot m f i j l->x∈l
 |0,_,_,_,_,_,x,h=>by unfold rot at h;exact h
 | f+1,i,j,l,hi,hj,x,h=>by
  unfold rot at h;split at h
  .exact aCP i (m-i) m l (by omega) (by omega) x h
  .split at h
   .exact aCP j (m-i) m l (by omega) (by omega) x (aBc m f (i-j) j _ (by omega) (by rw[lC];omega) x h)
   .exact aCP i (m-i) (m+j-i) l (by omega) (by omega) x (aBc m f i (j-i) _ (by omega) (by rw[lC];omega) x h)
attribute [local go_sem] Ad Ac Ai AJ BF BG Ar Be Aj Ae in
theorem sym1 (g:FuncId) (caps:List AV) (hcaps:jN caps=true) (cf:Int->Int->Int) (D:Int->Prop) (hc:aBB Tryz.prog g caps cf D) (l:List Int) (hD:∀x,x∈l->D x) (a b:Nat) (hl:l.length<=1048576) (hmb:a+1<b) (hb:b<=l.length) :
  Vs.Fn Tryz.prog F.aX [.arr 1 (E cI l) false] [.loc (.b 0) 0 l.length,.v (.int .i64 (a:Nat)),.v (.int .i64 ((a+1:Nat):Int)),.v (.int .i64 (b:Nat)),.fn g caps] (.tup [])
   [some (.arr 1 (E cI (mvU (bs (λh=>ltf cf (l.getD h 0) (l.getD a 0)) (a+1) b-1-a) a l)) false)]:=by
 have w1:IntKind.i64.wrap (((a+1:Nat):Int)-(a:Int))=1:=by rw[aI (by omega) (by omega)];omega
 have hll:(E cI l).length=l.length:=aH ..
 have g0:=iP (m:=l) (j:=a) (by omega);have e28:((1:Int)==1)=true:=rfl;refine fn1 Cd.symMerge_int64__k [.b 0] [.arr 1 (E cI (mvU (bs (λh=>ltf cf (l.getD h 0) (l.getD a 0)) (a+1) b-1-a) a l)) false] λX=>?_;unfold Cd.aX;simp -dsimp only[go_sem,w1,e28];refine aP.at dM (X:={zz:Nat×Nat // (a+1<=zz.1∧zz.1<=zz.2∧zz.2<=b)∧bs (λh=>ltf cf (l.getD h 0) (l.getD a 0)) zz.1 zz.2=bs (λh=>ltf cf (l.getD h 0) (l.getD a 0)) (a+1) (b)}) (λzz=>[(10,.v (.int .i64 zz.1.1)),(11,.v (.int .i64 zz.1.2))]) (λ_=>[]) (λzz=>zz.1.2-zz.1.1) ⟨(a+1,b),⟨by dsimp only;omega,by dsimp only;omega,by dsimp only;omega⟩,rfl⟩ ?_ ?_
 .exact le0
 .rintro⟨⟨i,j⟩,⟨hi0,hij,hj0⟩,hr⟩;dsimp only at hi0 hij hj0 hr;have wij:=addN (a:=i) (b:=j) (by omega);have whf:=half (a:=i) (b:=j) (by omega);simp -dsimp only[go_sem,wij,hll];refine Br.mk (λhlt=>?_) λhlt=>?_
  .have hlt2:i<j:=by simpa using hlt
   obtain⟨h,hh⟩:∃h,h=(i+j)/2:=⟨_,rfl⟩;rw[←hh] at whf;have wh1:=add1 (a:=h) (by omega);have hcc:=hc _ _ (mW hD (i:=h) (by omega)) (mW hD (i:=a) (by omega));have g1:=iP (m:=l) (j:=h) (by omega);by_cases hl2:cf (l.getD h 0) (l.getD a 0)<0
   .have e2:decide (cf (l.getD h 0) (l.getD a 0)<0)=true:=A9 hl2;rw[aB5 _ hlt2 (by rw[←hh];exact e2),←hh] at hr
    repeat' first|simp -dsimp only[go_sem,wij,whf,wh1,g0,g1,e2,hll,aG hcaps _ 6,aG hcaps _ 7,aU,bF,aT]|apply Br.mk<;>intro h<;>try simp -dsimp only[h]|refine aA.c (by first|exact hcc) ?_|refine aC ?_|refine aC9 ?_|fail
    all_goals first|omega|(exact⟨⟨(h+1,j),⟨by dsimp only;omega,by dsimp only;omega,by dsimp only;omega⟩,hr⟩,by simp[Vs.LeL,Vs.look,aB,aQ,aK,Vs.hset,aL],by simp only;omega⟩)
   .have e2:decide (cf (l.getD h 0) (l.getD a 0)<0)=false:=AQ hl2;rw[aER _ hlt2 (by rw[←hh];exact e2),←hh] at hr
    repeat' first|simp -dsimp only[go_sem,wij,whf,wh1,g0,g1,e2,hll,aG hcaps _ 6,aG hcaps _ 7,aU,bF,aT]|apply Br.mk<;>intro h<;>try simp -dsimp only[h]|refine aA.c (by first|exact hcc) ?_|refine aC ?_|refine aC9 ?_|fail
    all_goals first|omega|(exact⟨⟨(i,h),⟨by dsimp only;omega,by dsimp only;omega,by dsimp only;omega⟩,hr⟩,by simp[Vs.LeL,Vs.look,aB,aQ,aK,Vs.hset,aL],by simp only;omega⟩)
  .have hge:i=j:=by
    have:¬i<j:=by simpa using hlt
    omega
   subst hge;rw[uP _ (Dh _)] at hr;have wi:=aKq (a:=i) (by omega) (by omega);simp -dsimp only[go_sem,hll,aG hcaps _ 6,aG hcaps _ 7,aU,bF,aT];refine⟨?_,by simp⟩;refine aP.at dM (X:={zz:Nat×List Int // (a<=zz.1∧zz.1<=i-1)∧zz.2.length=l.length∧mvU (i-1-zz.1) zz.1 zz.2=mvU (i-1-a) a l}) (λzz=>[(13,.v (.int .i64 zz.1.1))]) (λzz=>[(.b 0,.arr 1 (E cI zz.1.2) false)]) (λzz=>i-zz.1.1) ⟨(a,l),⟨by dsimp only;omega,by dsimp only;omega⟩,rfl,rfl⟩ ?_ ?_
   .exact le0
   .rintro⟨⟨k,m⟩,⟨hk0,hk1⟩,hm,hq⟩;dsimp only at hk0 hk1 hm hq;have hml:(E cI m).length=l.length:=by rw[aH];exact hm
    simp -dsimp only[go_sem,wi,hml,aG hcaps _ 6,aG hcaps _ 7,aU,bF,aT];refine Br.mk (λhlt=>?_) λhlt=>?_
    .have hlt2:k<i-1:=by first|(simpa using hlt)|(simp at hlt;omega)
     have wk:=add1 (a:=k) (by omega);have g1:=iP (m:=m) (j:=k) (by omega);have g2:=iP (m:=m) (j:=k+1) (by omega);have hsw:=aI6 m k (k+1);obtain⟨y,g3⟩:=aAV (m:=m) k (j:=k+1) (by omega) (.v (.int .i64 (m.getD (k+1) 0)));have hsl:(swp m k (k+1)).length=l.length:=by rw[eF];exact hm
     rw[show i-1-k=(i-1-(k+1))+1 by omega,aK8] at hq
     repeat' first|simp -dsimp only[go_sem,wk,wi,g1,g2,g3,hsw,hml,aG hcaps _ 6,aG hcaps _ 7,aU,bF,aT]|apply Br.mk<;>intro h<;>try simp -dsimp only[h]|refine aC ?_|refine aC9 ?_|fail
     all_goals first|omega|(exact⟨⟨(k+1,swp m k (k+1)),⟨by dsimp only;omega,by dsimp only;omega⟩,hsl,hq⟩,by simp[Vs.LeL,Vs.look,aB,aQ,aK,Vs.hset,aL],by simp only;omega⟩)
    .have hge:k=i-1:=by
      have:¬k<i-1:=by first|(simpa using hlt)|(simp at hlt;omega)
      omega
     subst hge;rw[Cw] at hq;have hm0:mvU 0 (i-1) m=m:=by unfold mvU;rfl
     rw[hm0] at hq;simp -dsimp only[go_sem,wi,hml,aG hcaps _ 6,aG hcaps _ 7,aU,bF,aT];rw[←hr,←hq]
     first|exact⟨⟨⟨_,_,rfl,rfl⟩,λh=>h rfl⟩,λh=>h rfl⟩|exact⟨⟨_,_,rfl,rfl⟩,λh=>h rfl⟩
attribute [local go_sem] Ad Ac Ai AJ BF BG Ar Be Aj Ae in
theorem sym2 (g:FuncId) (caps:List AV) (hcaps:jN caps=true) (cf:Int->Int->Int) (D:Int->Prop) (hc:aBB Tryz.prog g caps cf D) (l:List Int) (hD:∀x,x∈l->D x) (a m:Nat) (hl:l.length<=1048576) (ham:a+1<m) (hb:m+1<=l.length) :
  Vs.Fn Tryz.prog F.aX [.arr 1 (E cI l) false] [.loc (.b 0) 0 l.length,.v (.int .i64 (a:Nat)),.v (.int .i64 (m:Nat)),.v (.int .i64 ((m+1:Nat):Int)),.fn g caps] (.tup [])
   [some (.arr 1 (E cI (mvD (m-bs (λh=>!ltf cf (l.getD m 0) (l.getD h 0)) a m) m l)) false)]:=by
 have w1:=yB (a:=m) (b:=a) (by omega) (by omega);have w2:IntKind.i64.wrap (((m+1:Nat):Int)-(m:Int))=1:=by rw[aI (by omega) (by omega)];omega
 have hll:(E cI l).length=l.length:=aH ..
 have g0:=iP (m:=l) (j:=m) (by omega);have e28:(((m-a:Nat):Int)==1)=false:=AB.2 (by omega);have e29:((1:Int)==1)=true:=rfl;refine fn1 Cd.symMerge_int64__k [.b 0] [.arr 1 (E cI (mvD (m-bs (λh=>!ltf cf (l.getD m 0) (l.getD h 0)) a m) m l)) false] λX=>?_;unfold Cd.aX;simp -dsimp only[go_sem,w1,w2,e28,e29];refine aP.at dM (X:={zz:Nat×Nat // (a<=zz.1∧zz.1<=zz.2∧zz.2<=m)∧bs (λh=>!ltf cf (l.getD m 0) (l.getD h 0)) zz.1 zz.2=bs (λh=>!ltf cf (l.getD m 0) (l.getD h 0)) (a) (m)}) (λzz=>[(14,.v (.int .i64 zz.1.1)),(15,.v (.int .i64 zz.1.2))]) (λ_=>[]) (λzz=>zz.1.2-zz.1.1) ⟨(a,m),⟨by dsimp only;omega,by dsimp only;omega,by dsimp only;omega⟩,rfl⟩ ?_ ?_
 .exact le0
 .rintro⟨⟨i,j⟩,⟨hi0,hij,hj0⟩,hr⟩;dsimp only at hi0 hij hj0 hr;have wij:=addN (a:=i) (b:=j) (by omega);have whf:=half (a:=i) (b:=j) (by omega);simp -dsimp only[go_sem,wij,hll];refine Br.mk (λhlt=>?_) λhlt=>?_
  .have hlt2:i<j:=by simpa using hlt
   obtain⟨h,hh⟩:∃h,h=(i+j)/2:=⟨_,rfl⟩;rw[←hh] at whf;have wh1:=add1 (a:=h) (by omega);have hcc:=hc _ _ (mW hD (i:=m) (by omega)) (mW hD (i:=h) (by omega));have g1:=iP (m:=l) (j:=h) (by omega);by_cases hl2:cf (l.getD m 0) (l.getD h 0)<0
   .have e2:decide (cf (l.getD m 0) (l.getD h 0)<0)=true:=A9 hl2;rw[aER _ hlt2 (by rw[←hh];show(!decide (cf (l.getD m 0) (l.getD h 0)<0))=false;rw[e2];rfl),←hh] at hr
    repeat' first|simp -dsimp only[go_sem,wij,whf,wh1,g0,g1,e2,hll,BV,Cs,aG hcaps _ 6,aG hcaps _ 7,aU,bF,aT]|apply Br.mk<;>intro h<;>try simp -dsimp only[h]|refine aA.c (by first|exact hcc) ?_|refine aC ?_|refine aC9 ?_|fail
    all_goals first|omega|(exact⟨⟨(i,h),⟨by dsimp only;omega,by dsimp only;omega,by dsimp only;omega⟩,hr⟩,by simp[Vs.LeL,Vs.look,aB,aQ,aK,Vs.hset,aL],by simp only;omega⟩)
   .have e2:decide (cf (l.getD m 0) (l.getD h 0)<0)=false:=AQ hl2;rw[aB5 _ hlt2 (by rw[←hh];show(!decide (cf (l.getD m 0) (l.getD h 0)<0))=true;rw[e2];rfl),←hh] at hr
    repeat' first|simp -dsimp only[go_sem,wij,whf,wh1,g0,g1,e2,hll,BV,Cs,aG hcaps _ 6,aG hcaps _ 7,aU,bF,aT]|apply Br.mk<;>intro h<;>try simp -dsimp only[h]|refine aA.c (by first|exact hcc) ?_|refine aC ?_|refine aC9 ?_|fail
    all_goals first|omega|(exact⟨⟨(h+1,j),⟨by dsimp only;omega,by dsimp only;omega,by dsimp only;omega⟩,hr⟩,by simp[Vs.LeL,Vs.look,aB,aQ,aK,Vs.hset,aL],by simp only;omega⟩)
  .have hge:i=j:=by
    have:¬i<j:=by simpa using hlt
    omega
   subst hge;rw[uP _ (Dh _)] at hr;simp -dsimp only[go_sem,hll,aG hcaps _ 6,aG hcaps _ 7,aU,bF,aT];refine⟨?_,by simp⟩;refine aP.at dM (X:={zz:Nat×List Int // (i<=zz.1∧zz.1<=m)∧zz.2.length=l.length∧mvD (zz.1-i) zz.1 zz.2=mvD (m-i) m l}) (λzz=>[(17,.v (.int .i64 zz.1.1))]) (λzz=>[(.b 0,.arr 1 (E cI zz.1.2) false)]) (λzz=>zz.1.1) ⟨(m,l),⟨by dsimp only;omega,by dsimp only;omega⟩,rfl,rfl⟩ ?_ ?_
   .exact le0
   .rintro⟨⟨k,d⟩,⟨hk0,hk1⟩,hm,hq⟩;dsimp only at hk0 hk1 hm hq;have hml:(E cI d).length=l.length:=by rw[aH];exact hm
    simp -dsimp only[go_sem,hml,aG hcaps _ 6,aG hcaps _ 7,aU,bF,aT];refine Br.mk (λhlt=>?_) λhlt=>?_
    .have hlt2:i<k:=by first|(simpa using hlt)|(simp at hlt;omega)
     obtain⟨k,rfl⟩:∃q,k=q+1:=⟨k-1,by omega⟩;have wk:=aKq (a:=k+1) (by omega) (by omega);rw[Nat.add_sub_cancel] at wk;have g1:=iP (m:=d) (j:=k) (by omega);have g2:=iP (m:=d) (j:=k+1) (by omega);have hsw:=aI6 d (k+1) k;obtain⟨y,g3⟩:=aAV (m:=d) (k+1) (j:=k) (by omega) (.v (.int .i64 (d.getD k 0)));have hsl:(swp d (k+1) k).length=l.length:=by rw[eF];exact hm
     rw[show k+1-i=(k-i)+1 by omega,aLa,Nat.add_sub_cancel] at hq
     repeat' first|simp -dsimp only[go_sem,wk,g1,g2,g3,hsw,hml,aG hcaps _ 6,aG hcaps _ 7,aU,bF,aT]|apply Br.mk<;>intro h<;>try simp -dsimp only[h]|refine aC ?_|refine aC9 ?_|fail
     all_goals first|omega|(exact⟨⟨(k,swp d (k+1) k),⟨by dsimp only;omega,by dsimp only;omega⟩,hsl,hq⟩,by simp[Vs.LeL,Vs.look,aB,aQ,aK,Vs.hset,aL],by simp only;omega⟩)
    .have hge:k=i:=by
      have:¬i<k:=by first|(simpa using hlt)|(simp at hlt;omega)
      omega
     subst hge;rw[Cw] at hq;have hm0:mvD 0 k d=d:=by unfold mvD;rfl
     rw[hm0] at hq;simp -dsimp only[go_sem,hml,aG hcaps _ 6,aG hcaps _ 7,aU,bF,aT];rw[←hr,←hq]
     first|exact⟨⟨⟨_,_,rfl,rfl⟩,λh=>h rfl⟩,λh=>h rfl⟩|exact⟨⟨_,_,rfl,rfl⟩,λh=>h rfl⟩
end
section
variable [Vs.Envs]
attribute [local irreducible] Vs.Fn swp swR rot xJ xY mvU mvD smg rH
theorem aIy:∀(n k:Nat) (l:List Int),n<=k->k<l.length->∀x,x∈mvD n k l->x∈l
 |0,_,_,_,_,x,h=>by unfold mvD at h;exact h
 | n+1,k,l,hk,hl,x,h=>by
  unfold mvD at h;exact aBb (by omega) (by omega) x (aIy n (k-1) _ (by omega) (by rw[eF];omega) x h)
theorem aAh {lt:Int->Int->Bool}:∀(f a m b:Nat) (l:List Int),a<m->m<b->b<=l.length->∀x,x∈smg lt f a m b l->x∈l
 |0,_,_,_,_,_,_,_,x,h=>by unfold smg at h;exact h
 | f+1,a,m,b,l,h1,h2,h3,x,h=>by
  unfold smg at h;split at h
  .have:=aD0 (λh=>lt (l.getD h 0) (l.getD a 0)) _ m b (Au _) (by omega);exact aIx _ _ _ (by omega) x h
  .split at h
   .have:=aD0 (λh=>!lt (l.getD m 0) (l.getD h 0)) _ a m (Au _) (by omega);exact aIy _ _ _ (by omega) (by omega) x h
   .dsimp only at h;generalize hs:bs (λc=>!lt (l.getD ((a+b)/2+m-1-c) 0) (l.getD c 0)) (if(a+b)/2<m then(a+b)/2+m-b else a) (if(a+b)/2<m then(a+b)/2 else m)=s at h;have hsb:=aD0 (λc=>!lt (l.getD ((a+b)/2+m-1-c) 0) (l.getD c 0)) _ (if(a+b)/2<m then(a+b)/2+m-b else a) (if(a+b)/2<m then(a+b)/2 else m) (Au _) (by split<;>omega);rw[hs] at hsb
    have k1:a<=s∧s<=m∧s<=(a+b)/2∧(a+b)/2+m-s<=b:=by
     split at hsb<;>omega
    have r1:∀x,x∈(if s<m∧m<(a+b)/2+m-s then rot m ((a+b)/2+m-s-s) (m-s) ((a+b)/2+m-s-m) l else l)->x∈l:=by
     intro x hx;split at hx
     .exact aBc m _ _ _ l (by omega) (by omega) x hx
     .exact hx
    have len1:(if s<m∧m<(a+b)/2+m-s then rot m ((a+b)/2+m-s-s) (m-s) ((a+b)/2+m-s-m) l else l).length=l.length:=by
     split
     .rw[p9]
     .rfl
    generalize(if s<m∧m<(a+b)/2+m-s then rot m ((a+b)/2+m-s-s) (m-s) ((a+b)/2+m-s-m) l else l)=l1 at h r1 len1
    have r2:∀x,x∈(if a<s∧s<(a+b)/2 then smg lt f a s ((a+b)/2) l1 else l1)->x∈l1:=by
     intro x hx;split at hx
     .rename_i hc;exact aAh f a s _ l1 hc.1 hc.2 (by omega) x hx
     .exact hx
    have len2:(if a<s∧s<(a+b)/2 then smg lt f a s ((a+b)/2) l1 else l1).length=l1.length:=by
     split
     .rw[pJ]
     .rfl
    generalize(if a<s∧s<(a+b)/2 then smg lt f a s ((a+b)/2) l1 else l1)=l2 at h r2 len2;split at h
    .rename_i hc;exact r1 x (r2 x (aAh f _ _ b l2 hc.1 hc.2 (by omega) x h))
    .exact r1 x (r2 x h)
attribute [local go_sem] Ad Ac Ai AJ BF BG Ar Be Aj Ae in
theorem symG (g:FuncId) (caps:List AV) (G:jN caps=true) (H:Int->Int->Int) (D:Int->Prop) (hc:aBB Tryz.prog g caps H D) (l:List Int) (hD:∀x,x∈l->D x) (a m b f:Nat) (hl:l.length<=1048576) (h5:a+1<m) (h7:m+1<b) (hb:b<=l.length) (hf:b-a<=f+1)
  (mid:Nat) (U:mid=(a+b)/2) (p q:Nat) (cb:Bool) (ha:(cb=true∧mid<m∧p=mid+m-b∧q=mid)∨(cb=false∧m<=mid∧p=a∧q=m))
  (IH:∀(l':List Int),l'.length=l.length->(∀x,x∈l'->D x)->∀a' m' b':Nat,a'<m'->m'<b'->b'<=l.length->b'-a'<=f->
    Vs.Fn Tryz.prog F.aX [.arr 1 (E cI l') false] [.loc (.b 0) 0 l.length,.v (.int .i64 (a':Nat)),.v (.int .i64 (m':Nat)),.v (.int .i64 (b':Nat)),.fn g caps] (.tup []) [some (.arr 1 (E cI (smg (ltf H) f a' m' b' l')) false)]) :
  Vs.Fn Tryz.prog F.aX [.arr 1 (E cI l) false] [.loc (.b 0) 0 l.length,.v (.int .i64 (a:Nat)),.v (.int .i64 (m:Nat)),.v (.int .i64 (b:Nat)),.fn g caps] (.tup [])
   [some (.arr 1 (E cI (smg (ltf H) (f+1) a m b l)) false)]:=by
 have w1:=yB (a:=m) (b:=a) (by omega) (by omega);have w2:=yB (a:=b) (b:=m) (by omega) (by omega);have w3:=addN (a:=a) (b:=b) (by omega);have w4:=half (a:=a) (b:=b) (by omega);rw[←U] at w4;have w5:=addN (a:=mid) (b:=m) (by omega);have w6:=aKq (a:=mid+m) (by omega) (by omega);have w7:mid+m≥b->IntKind.i64.wrap (((mid+m:Nat):Int)-(b:Int))=((mid+m-b:Nat):Int):=λh=>yB h (by omega);have I:(E cI l).length=l.length:=aH ..
 have hu:(((m-a:Nat):Int)==1)=false:=AB.2 (by omega);have hv:(((b-m:Nat):Int)==1)=false:=AB.2 (by omega);have hw:decide ((m:Int)>(mid:Int))=cb:=by rcases ha with⟨h1,h2,-,-⟩|⟨h1,h2,-,-⟩<;>subst h1<;>simp<;>omega
 obtain⟨s,hs⟩:∃s,s=bs (λc=>!ltf H (l.getD (mid+m-1-c) 0) (l.getD c 0)) p q:=⟨_,rfl⟩;have h4:=aD0 (λc=>!ltf H (l.getD (mid+m-1-c) 0) (l.getD c 0)) _ p q (Au _) (by omega);rw[←hs] at h4;have h6:a<=s∧s<=m∧s<=mid∧mid+m-s<=b∧mid<b:=by omega
 obtain⟨T,hT⟩:∃T,T=smg (ltf H) (f+1) a m b l:=⟨_,rfl⟩
 have Y:T=if mid<mid+m-s∧mid+m-s<b then smg (ltf H) f mid (mid+m-s) b (if a<s∧s<mid then smg (ltf H) f a s mid (if s<m∧m<mid+m-s then rot m (mid+m-s-s) (m-s) (mid+m-s-m) l else l) else(if s<m∧m<mid+m-s then rot m (mid+m-s-s) (m-s) (mid+m-s-m) l else l)) else(if a<s∧s<mid then smg (ltf H) f a s mid (if s<m∧m<mid+m-s then rot m (mid+m-s-s) (m-s) (mid+m-s-m) l else l) else(if s<m∧m<mid+m-s then rot m (mid+m-s-s) (m-s) (mid+m-s-m) l else l)):=by
  rw[hT,smg,AC (by omega),AC (by omega)];dsimp only;rw[←U];rcases ha with⟨-,M,hp,hq⟩|⟨-,M,hp,hq⟩<;>rw[hp,hq] at hs
  .simp only[AP M];rw[←hs]
  .simp only[AC (show ¬mid<m by omega)];rw[←hs]
 rw[←hT];have hj:∀x,x∈rot m (mid+m-s-s) (m-s) (mid+m-s-m) l->D x:=λx hx=>hD x (aBc m _ _ _ l (by omega) (by omega) x hx);have hd:(rot m (mid+m-s-s) (m-s) (mid+m-s-m) l).length=l.length:=p9 ..
 rcases ha with⟨rfl,M,hp,hq⟩|⟨rfl,M,hp,hq⟩
 rotate_left
 have hn:=w6
 rotate_left
 have hn:IntKind.i64.wrap (((mid+m:Nat):Int)-(b:Int))=((p:Nat):Int):=by rw[w7 (by omega),hp]
 all_goals
  refine fn1 Cd.symMerge_int64__k [.b 0] [.arr 1 (E cI T) false] λX=>?_;unfold Cd.aX;simp -dsimp only[go_sem,w1,w2,w3,w4,w5,w6,hu,hv,hw,I,hn];refine⟨by omega,?_⟩;refine aP.at dM (X:={J:Nat×Nat // (p<=J.1∧J.1<=J.2∧J.2<=q)∧bs (λc=>!ltf H (l.getD (mid+m-1-c) 0) (l.getD c 0)) J.1 J.2=bs (λc=>!ltf H (l.getD (mid+m-1-c) 0) (l.getD c 0)) (p) (q)}) (λJ=>[(20,.v (.int .i64 J.1.1)),(21,.v (.int .i64 J.1.2))]) (λ_=>[]) (λJ=>J.1.2-J.1.1) ⟨(p,q),⟨by dsimp only;omega,by dsimp only;omega,by dsimp only;omega⟩,rfl⟩ ?_ ?_
  .simp[Vs.LeL,Vs.look,aB,aQ,aK,Vs.hset,aL,hp,hq]
  .rintro⟨⟨i,j⟩,⟨hz,h0,h3⟩,V⟩;dsimp only at hz h0 h3 V;have hg:=addN (a:=i) (b:=j) (by omega);have he:=half (a:=i) (b:=j) (by omega);simp -dsimp only[go_sem,hg,I];refine Br.mk (λZ=>?_) λZ=>?_
   .have O:i<j:=by simpa using Z
    obtain⟨h,hh⟩:∃h,h=(i+j)/2:=⟨_,rfl⟩;rw[←hh] at he;have ho:=add1 (a:=h) (by omega);have ht:=yB (a:=mid+m-1) (b:=h) (by omega) (by omega);have hk:=hc _ _ (mW hD (i:=mid+m-1-h) (by omega)) (mW hD (i:=h) (by omega));have g1:=iP (m:=l) (j:=h) (by omega);have g2:=iP (m:=l) (j:=mid+m-1-h) (by omega);by_cases hm:H (l.getD (mid+m-1-h) 0) (l.getD h 0)<0
    .have e2:decide (H (l.getD (mid+m-1-h) 0) (l.getD h 0)<0)=true:=A9 hm;rw[aER _ O (by rw[←hh];show(!decide (H (l.getD (mid+m-1-h) 0) (l.getD h 0)<0))=false;rw[e2];rfl),←hh] at V
     repeat' first|simp -dsimp only[go_sem,hg,he,ho,ht,g1,g2,e2,I,BV,Cs,aG G _ 6,aG G _ 7,aU,bF,aT]|apply Br.mk<;>intro h<;>try simp -dsimp only[h]|refine aA.c (by first|exact hk) ?_|refine aC ?_|refine aC9 ?_|fail
     all_goals first|omega|(exact⟨⟨(i,h),⟨by dsimp only;omega,by dsimp only;omega,by dsimp only;omega⟩,V⟩,by simp[Vs.LeL,Vs.look,aB,aQ,aK,Vs.hset,aL],by simp only;omega⟩)
    .have e2:decide (H (l.getD (mid+m-1-h) 0) (l.getD h 0)<0)=false:=AQ hm;rw[aB5 _ O (by rw[←hh];show(!decide (H (l.getD (mid+m-1-h) 0) (l.getD h 0)<0))=true;rw[e2];rfl),←hh] at V
     repeat' first|simp -dsimp only[go_sem,hg,he,ho,ht,g1,g2,e2,I,BV,Cs,aG G _ 6,aG G _ 7,aU,bF,aT]|apply Br.mk<;>intro h<;>try simp -dsimp only[h]|refine aA.c (by first|exact hk) ?_|refine aC ?_|refine aC9 ?_|fail
     all_goals first|omega|(exact⟨⟨(h+1,j),⟨by dsimp only;omega,by dsimp only;omega,by dsimp only;omega⟩,V⟩,by simp[Vs.LeL,Vs.look,aB,aQ,aK,Vs.hset,aL],by simp only;omega⟩)
   .have hy:i=j:=by
     have:¬i<j:=by simpa using Z
     omega
    subst hy;rw[uP _ (Dh _)] at V;rw[←hs] at V;subst V;have we:=yB (a:=mid+m) (b:=i) (by omega) (by omega);have d1:decide ((i:Int)<(m:Int))=decide (i<m):=by simp
    have d2:decide ((m:Int)<((mid+m-i:Nat):Int))=decide (i<mid):=by
     have:(m:Int)<((mid+m-i:Nat):Int)↔i<mid:=by omega
     simp only[this]
    have d3:decide ((a:Int)<(i:Int))=decide (a<i):=by simp
    have d4:decide ((i:Int)<(mid:Int))=decide (i<mid):=by simp
    have d5:decide ((mid:Int)<((mid+m-i:Nat):Int))=decide (i<m):=by
     have:(mid:Int)<((mid+m-i:Nat):Int)↔i<m:=by omega
     simp only[this]
    have d6:decide (((mid+m-i:Nat):Int)<(b:Int))=decide (mid+m-i<b):=by simp
    have q2:(m<mid+m-i)=(i<mid):=by apply propext;omega
    have q5:(mid<mid+m-i)=(i<m):=by apply propext;omega
    simp only[q2,q5] at Y;have CR:=λ(h1:i<m) (h2:i<mid)=>rotate g caps G l i m (mid+m-i) hl h1 (by omega) (by omega);by_cases A:a<i<;>by_cases B:i<mid<;>by_cases C:i<m<;>by_cases E':mid+m-i<b
    all_goals
     simp only[A,B,C,E',and_self,and_true,Ck,and_false,false_and,Bj,Bc,decide_true,decide_false] at d1 d2 d3 d4 d5 d6 Y;simp -dsimp only[go_sem,we,d1,d2,d3,d4,d5,d6,I,aG G _ 6,aG G _ 7,aU,bF,aT];refine⟨?_,λh=>h rfl⟩
     repeat' first|simp -dsimp only[go_sem,we,d1,d2,d3,d4,d5,d6,I,aG G _ 6,aG G _ 7,aU,bF,aT]|refine And.intro rfl (aA.bor (CR C B) rfl ?_)|refine And.intro rfl (aA.bor (IH _ ?_ ?_ _ _ _ ?_ ?_ ?_ ?_) rfl ?_)|simp -dsimp only[go_sem,we,d1,d2,d3,d4,d5,d6,I,aG G _ 6,aG G _ 7,aU,bF,aT]|fail
    all_goals first
     |omega
     |exact hD
     |exact hj
     |exact hd
     |rfl
     |(rw[pJ];first|exact hd|rfl)
     |(intro x hx;first|exact hD x (aAh _ _ _ _ l (by omega) (by omega) (by omega) x hx)|exact hj x (aAh _ _ _ _ _ (by omega) (by omega) (by rw[hd];omega) x hx))
     |(rw[Y];exact⟨_,_,rfl,rfl⟩)

theorem sym (g:FuncId) (caps:List AV) (hcaps:jN caps=true) (cf:Int->Int->Int) (D:Int->Prop) (hc:aBB Tryz.prog g caps cf D) (n:Nat) (hn:n<=1048576):∀(f:Nat) (l:List Int),l.length=n->(∀x,x∈l->D x)->∀a m b:Nat,a<m->m<b->b<=n->b-a<=f->
  Vs.Fn Tryz.prog F.aX [.arr 1 (E cI l) false] [.loc (.b 0) 0 n,.v (.int .i64 (a:Nat)),.v (.int .i64 (m:Nat)),.v (.int .i64 (b:Nat)),.fn g caps] (.tup []) [some (.arr 1 (E cI (smg (ltf cf) f a m b l)) false)]
 |0,l,hl,hD,a,m,b,h1,h2,h3,h4=>absurd h4 (by omega)
 | f+1,l,hl,hD,a,m,b,h1,h2,h3,h4=>by
  subst hl;by_cases k1:m=a+1
  .subst k1;have hs:smg (ltf cf) (f+1) a (a+1) b l=mvU (bs (λh=>ltf cf (l.getD h 0) (l.getD a 0)) (a+1) b-1-a) a l:=by rw[smg,AP (by omega)]
   rw[hs];exact sym1 g caps hcaps cf D hc l hD a b hn h2 h3
  by_cases k2:b=m+1
  .subst k2;have hs:smg (ltf cf) (f+1) a m (m+1) l=mvD (m-bs (λh=>!ltf cf (l.getD m 0) (l.getD h 0)) a m) m l:=by rw[smg,AC (by omega),AP (by omega)]
   rw[hs];exact sym2 g caps hcaps cf D hc l hD a m hn (by omega) h3
  by_cases k3:(a+b)/2<m
  .exact symG g caps hcaps cf D hc l hD a m b f hn (by omega) (by omega) h3 h4 _ rfl _ _ true (.inl ⟨rfl,k3,rfl,rfl⟩) λl' e1 e2 a' m' b' e3 e4 e5 e6=>sym g caps hcaps cf D hc l.length hn f l' e1 e2 a' m' b' e3 e4 e5 e6
  .exact symG g caps hcaps cf D hc l hD a m b f hn (by omega) (by omega) h3 h4 _ rfl _ _ false (.inr ⟨rfl,by omega,rfl,rfl⟩) λl' e1 e2 a' m' b' e3 e4 e5 e6=>sym g caps hcaps cf D hc l.length hn f l' e1 e2 a' m' b' e3 e4 e5 e6
end
section
variable [Vs.Envs]
attribute [local irreducible] Vs.Fn swp swR rot xJ xY mvU mvD smg rH
theorem aGa {lt:Int->Int->Bool}{a:Nat}:∀(j:Nat) (l:List Int),j<l.length->∀x,x∈xY lt a j l->x∈l
 |0,l,_,x,h=>by unfold xY at h;exact h
 | j+1,l,hj,x,h=>by
  rw[xY] at h;split at h
  .exact aBb (by omega) (by omega) x (aGa j _ (by rw[eF];omega) x h)
  .exact h
theorem aGb {lt:Int->Int->Bool}{a:Nat}:∀(n i:Nat) (l:List Int),i+n<=l.length->∀x,x∈xJ lt a n i l->x∈l
 |0,_,l,_,x,h=>by unfold xJ at h;exact h
 | n+1,i,l,hi,x,h=>by
  rw[xJ] at h;exact aGa i l (by omega) x (aGb n (i+1) _ (by rw[yY];omega) x h)
theorem aDz {lt:Int->Int->Bool}{a b:Nat}{l:List Int} (hb:b<=l.length):∀x,x∈rH lt a b l->x∈l:=by
 intro x h;unfold rH at h;by_cases hab:a+1<=b
 .exact aGb _ _ l (by omega) x h
 .rw[show b-(a+1)=0 by omega] at h;unfold xJ at h;exact h
theorem aJQ {lt:Int->Int->Bool}{a b:Nat}{l:List Int} (h:b<=a+1):rH lt a b l=l:=by
 unfold rH;rw[show b-(a+1)=0 by omega];unfold xJ;rfl
theorem W20:IntKind.i64.wrap (0+20)=20:=by decide
theorem W40:IntKind.i64.wrap (2*20)=40:=by decide
theorem W60:IntKind.i64.wrap (40+20)=60:=by decide
theorem W80:IntKind.i64.wrap (40+IntKind.i64.wrap (2*20))=80:=by decide
attribute [local go_sem] Ad Ac Ai AJ BF BG Ar Be Aj Ae AO in
theorem stable (g:FuncId) (caps:List AV) (hcaps:jN caps=true) (cf:Int->Int->Int) (D:Int->Prop) (hc:aBB Tryz.prog g caps cf D) (l:List Int) (hD:∀x,x∈l->D x) (hl:l.length<=40) :
  Vs.Fn Tryz.prog F.jW [.arr 1 (E cI l) false] [.loc (.b 0) 0 l.length,.v (.int .i64 (l.length:Nat)),.fn g caps] (.tup []) [some (.arr 1 (E cI (stb (ltf cf) l)) false)]:=by
 have hI:∀(m:List Int),m.length=l.length->(∀x,x∈m->D x)->∀a b:Nat,a<=b->b<=l.length->
   Vs.Fn Tryz.prog F.fZ [.arr 1 (E cI m) false] [.loc (.b 0) 0 l.length,.v (.int .i64 (a:Nat)),.v (.int .i64 (b:Nat)),.fn g caps] (.tup []) [some (.arr 1 (E cI (rH (ltf cf) a b m)) false)]:=by
  intro m hm hDm a b h1 h2;have:=insertion g caps hcaps cf D hc m hDm a b (by omega) h1 (by omega)
  rwa [hm] at this
 have hS:=λ(m:List Int) (hm:m.length=l.length) (hDm:∀x,x∈m->D x) (b:Nat) (h1:20<b) (h2:b<=l.length)=>sym g caps hcaps cf D hc l.length (by omega) 40 m hm hDm 0 20 b (by omega) h1 h2 (by omega);obtain⟨r1,hr1⟩:∃r,r=rH (ltf cf) 0 20 l:=⟨_,rfl⟩;obtain⟨r2,hr2⟩:∃r,r=rH (ltf cf) 20 l.length r1:=⟨_,rfl⟩;obtain⟨r0,hr0⟩:∃r,r=rH (ltf cf) 0 l.length l:=⟨_,rfl⟩;have n1:r1.length=l.length:=by rw[hr1,iM]
 have n2:r2.length=l.length:=by rw[hr2,iM,n1]
 have n0:r0.length=l.length:=by rw[hr0,iM]
 have D1:20<=l.length->∀x,x∈r1->D x:=λh x hx=>hD x (aDz (by omega) x (by rw[←hr1];exact hx));have D2:20<=l.length->∀x,x∈r2->D x:=λh x hx=>D1 h x (aDz (a:=20) (b:=l.length) (by omega) x (by rw[←hr2];exact hx));obtain⟨T,hT⟩:∃T,T=stb (ltf cf) l:=⟨_,rfl⟩
 have hT2:T=if l.length<20 then r0 else if 20<l.length then smg (ltf cf) 40 0 20 l.length r2 else r2:=by
  rw[hT,hr0,hr2,hr1];rfl
 rw[←hT];refine fn1 Cd.stable_int64__k [.b 0] [.arr 1 (E cI T) false] λX=>?_;unfold Cd.jW;simp -dsimp only[go_sem];refine aP.at dM (X:={zz:Nat×List Int // (zz.1=0∧zz.2=l)∨(zz.1=1∧zz.2=r1∧20<=l.length)∨(zz.1=2∧zz.2=r2∧l.length=40)}) (λzz=>[(7,.v (.int .i64 ((20*zz.1.1:Nat):Int))),(8,.v (.int .i64 ((20*zz.1.1+20:Nat):Int)))]) (λzz=>[(.b 0,.arr 1 (E cI zz.1.2) false)]) (λzz=>3-zz.1.1) ⟨(0,l),.inl ⟨rfl,rfl⟩⟩ ?_ ?_
 .exact le0
 .rintro⟨⟨k,m⟩,hk⟩;dsimp only at hk;have hm:m.length=l.length:=by rcases hk with⟨_,rfl⟩|⟨_,rfl,_⟩|⟨_,rfl,_⟩<;>first|rfl|assumption
  have hml:(E cI m).length=l.length:=by rw[aH];exact hm
  have hDm:∀x,x∈m->D x:=by
   rcases hk with⟨_,rfl⟩|⟨_,rfl,h⟩|⟨_,rfl,h⟩
   .exact hD
   .exact D1 h
   .exact D2 (by omega)
  simp -dsimp only[go_sem];refine Br.mk (λhlt=>?_) λhlt=>?_
  .have hlt2:20*k+20<=l.length:=by have:=BK hlt;omega
   have hk1:k<=1:=by omega
   have w1:IntKind.i64.wrap (((20*k+20:Nat):Int)+20)=((20*(k+1)+20:Nat):Int):=by rw[aI (by omega) (by omega)];omega
   have CI:=hI m hm hDm (20*k) (20*k+20) (by omega) hlt2;simp -dsimp only[go_sem,hml,aG hcaps _ 6,aG hcaps _ 7,aU,bF,aT];refine⟨rfl,aA.bor CI rfl ?_⟩;simp -dsimp only[go_sem,hml,aG hcaps _ 6,aG hcaps _ 7,aU,bF,aT]
   have hnext:(k+1=0∧rH (ltf cf) (20*k) (20*k+20) m=l)∨(k+1=1∧rH (ltf cf) (20*k) (20*k+20) m=r1∧20<=l.length)∨(k+1=2∧rH (ltf cf) (20*k) (20*k+20) m=r2∧l.length=40):=by
    rcases hk with⟨rfl,rfl⟩|⟨rfl,rfl,h⟩|⟨rfl,rfl,h⟩
    .exact .inr (.inl ⟨rfl,hr1.symm,by omega⟩)
    .exact .inr (.inr ⟨rfl,by rw[hr2,show l.length=40 by omega],by omega⟩)
    .omega
   have he:((20*(k+1):Nat):Int)=((20*k+20:Nat):Int):=by omega
   refine⟨⟨(k+1,rH (ltf cf) (20*k) (20*k+20) m),hnext⟩,?_,by simp only;omega⟩;simp[Vs.LeL,Vs.look,aB,aQ,aK,Vs.hset,aL];rw[aI (by omega) (by omega)];omega
  .have hge:¬20*k+20<=l.length:=by have:=BU hlt;omega
   have hk3:20*k<=l.length:=by rcases hk with⟨rfl,rfl⟩|⟨rfl,rfl,h⟩|⟨rfl,rfl,h⟩<;>omega
   have CI:=hI m hm hDm (20*k) l.length hk3 (Au _);obtain⟨q,hq⟩:∃q,q=rH (ltf cf) (20*k) l.length m:=⟨_,rfl⟩;rw[←hq] at CI
   have hqv:(l.length<20∧q=r0)∨(20<=l.length∧q=r2):=by
    rcases hk with⟨rfl,rfl⟩|⟨rfl,rfl,h⟩|⟨rfl,rfl,h⟩
    .exact .inl ⟨by omega,by rw[hq,hr0]⟩
    .exact .inr ⟨h,by rw[hq,hr2]⟩
    .exact .inr ⟨by omega,by rw[hq,aJQ (by omega)]⟩
   have hqn:q.length=l.length:=by rw[hq,iM];exact hm
   have hqD:∀x,x∈q->D x:=λx hx=>hDm x (aDz (a:=20*k) (b:=l.length) (by omega) x (by rw[←hq];exact hx));have hql:(E cI q).length=l.length:=by rw[aH];exact hqn
   simp -dsimp only[go_sem,hml,aG hcaps _ 6,aG hcaps _ 7,aU,bF,aT];refine⟨⟨rfl,aA.bor CI rfl ?_⟩,λh=>h rfl⟩;simp -dsimp only[go_sem,hml,aG hcaps _ 6,aG hcaps _ 7,aU,bF,aT];refine aP.at dM (X:={zz:Bool×List Int // (zz.1=false∧zz.2=q)∨(zz.1=true∧zz.2=T)}) (λzz=>[(6,.v (.int .i64 (if zz.1.1 then 40 else 20)))]) (λzz=>[(.b 0,.arr 1 (E cI zz.1.2) false)]) (λzz=>if zz.1.1 then 0 else 1) ⟨(false,q),.inl ⟨rfl,rfl⟩⟩ ?_ ?_
   .exact le0
   .rintro⟨⟨fl,d⟩,hf⟩;dsimp only at hf;rcases hf with⟨rfl,rfl⟩|⟨rfl,rfl⟩
    rotate_left
    .have e1:decide ((40:Int)<(l.length:Int))=false:=AQ (by omega);simp -dsimp only[go_sem,e1,hml,aG hcaps _ 6,aG hcaps _ 7,aU,bF,aT];exact⟨⟨_,_,rfl,rfl⟩,λh=>h rfl⟩
    by_cases h20:20<l.length
    rotate_left
    .have e1:decide ((20:Int)<(l.length:Int))=false:=AQ (by omega)
     have hTd:T=d:=by
      rw[hT2];rcases hqv with⟨h1,h2⟩|⟨h1,h2⟩
      .rw[AP h1,h2]
      .rw[AC (by omega),AC h20,h2]
     rw[hTd];simp -dsimp only[go_sem,e1,hml,aG hcaps _ 6,aG hcaps _ 7,aU,bF,aT];exact⟨⟨_,_,rfl,rfl⟩,λh=>h rfl⟩
    have hd2:d=r2:=by rcases hqv with⟨h1,_⟩|⟨_,h2⟩<;>first|omega|exact h2
    have hTd:smg (ltf cf) 40 0 20 l.length d=T:=by rw[hT2,AC (by omega),AP h20,hd2]
    have hTl:T.length=l.length:=by rw[←hTd,pJ];exact hqn
    have e1:decide ((20:Int)<(l.length:Int))=true:=A9 (by omega);have CS:=hS d hqn hqD l.length h20 (Au _);rw[hTd] at CS;have CS':Vs.Fn Tryz.prog F.aX [.arr 1 (E cI d) false] [.loc (.b 0) 0 l.length,.v (.int .i64 0),.v (.int .i64 20),.v (.int .i64 (l.length:Nat)),.fn g caps] (.tup []) [some (.arr 1 (E cI T) false)]:=CS;have hTn:(E cI T).length=l.length:=by rw[aH];exact hTl
    simp -dsimp only[go_sem,e1,hml,aG hcaps _ 6,aG hcaps _ 7,aU,bF,aT];refine aP.at dM (X:={zz:Bool×List Int // (zz.1=false∧zz.2=d)∨(zz.1=true∧zz.2=T∧l.length=40)}) (λzz=>[(7,.v (.int .i64 (if zz.1.1 then 40 else 0))),(8,.v (.int .i64 (if zz.1.1 then 80 else 40)))]) (λzz=>[(.b 0,.arr 1 (E cI zz.1.2) false)]) (λzz=>if zz.1.1 then 0 else 1) ⟨(false,d),.inl ⟨rfl,rfl⟩⟩ ?_ ?_
    .simp[Vs.LeL,Vs.look,aB,aQ,aK,Vs.hset,aL]<;>decide
    .rintro⟨⟨fl,d2⟩,hf⟩;dsimp only at hf;rcases hf with⟨rfl,rfl⟩|⟨rfl,rfl,h40⟩
     .by_cases h40:l.length=40
      .have e2:decide ((40:Int)<=(l.length:Int))=true:=A9 (by omega)
       have CS2:Vs.Fn Tryz.prog F.aX [.arr 1 (E cI d2) false] [.loc (.b 0) 0 l.length,.v (.int .i64 0),.v (.int .i64 20),.v (.int .i64 40),.fn g caps] (.tup []) [some (.arr 1 (E cI T) false)]:=by
        have h:=CS';rw[show((l.length:Nat):Int)=40 by omega] at h;exact h
       simp -dsimp only[go_sem,e1,e2,hql,hTn,W20,W40,W60,W80,hml,aG hcaps _ 6,aG hcaps _ 7,aU,bF,aT];refine⟨rfl,aA.bor CS2 rfl ?_⟩;simp -dsimp only[go_sem,e1,e2,hql,hTn,W20,W40,W60,W80,hml,aG hcaps _ 6,aG hcaps _ 7,aU,bF,aT];exact⟨⟨(true,T),.inr ⟨rfl,rfl,h40⟩⟩,by simp[Vs.LeL,Vs.look,aB,aQ,aK,Vs.hset,aL]<;>decide,by simp⟩
      .have e2:decide ((40:Int)<=(l.length:Int))=false:=AQ (by omega);simp -dsimp only[go_sem,e1,e2,hql,hTn,W20,W40,W60,W80,hml,aG hcaps _ 6,aG hcaps _ 7,aU,bF,aT];refine⟨⟨rfl,aA.bor CS' rfl ?_⟩,λh1 h2=>absurd rfl h1⟩;simp -dsimp only[go_sem,e1,e2,hql,hTn,W20,W40,W60,W80,hml,aG hcaps _ 6,aG hcaps _ 7,aU,bF,aT];exact⟨⟨(true,T),.inr ⟨rfl,rfl⟩⟩,by simp[Vs.LeL,Vs.look,aB,aQ,aK,Vs.hset,aL]<;>decide,by simp⟩
     .have e2:decide ((80:Int)<=(l.length:Int))=false:=AQ (by omega);have e3:decide ((60:Int)<(l.length:Int))=false:=AQ (by omega);simp -dsimp only[go_sem,e1,e2,e3,hql,hTn,W20,W40,W60,W80,hml,aG hcaps _ 6,aG hcaps _ 7,aU,bF,aT];exact⟨⟨⟨(true,d2),.inr ⟨rfl,rfl⟩⟩,by simp[Vs.LeL,Vs.look,aB,aQ,aK,Vs.hset,aL]<;>decide,by simp⟩,λh1 h2=>absurd rfl h1⟩
end
section
variable [Vs.Envs]
attribute [local irreducible] Vs.Fn dJ bB dK dL l03
theorem aFs {r a b:Int} (h:inB r a b=true):a<=r:=by
 simp only[inB,Aw,Bb] at h;omega
def wU (r:Int):Int:=if r=12 then 1 else if r=11 then 2 else if inB r 0 9 then W (4*2 ^ (min r.toNat 64)) else 0
def cdP (n:Int):Int×Bool:=
 if n=32 then(0,true) else if n=38 then(wU 12,true) else if n=45 then(wU 11,true) else if aAw n then(wU (W (IntKind.u8.wrap (n-48))),true)
 else if btw n 65 73 then(orI (wU 12) (wU (W (W (IntKind.u8.wrap (n-65))+1))),true) else if btw n 74 82 then(orI (wU 11) (wU (W (W (IntKind.u8.wrap (n-74))+1))),true)
 else if n=47 then(orI (wU 0) (wU 1),true) else if btw n 83 90 then(orI (wU 0) (wU (W (W (IntKind.u8.wrap (n-83))+2))),true) else(0,false)
theorem aOU (r:Int):Fz F.fA [.v (.int .i64 r)] (.v (.int .i64 (wU r))):=by
 refine fn0 Cd.i_bitOf_k λX=>?_
 repeat' first|simp -dsimp only[go_sem]|apply Br.mk<;>intro h<;>try simp -dsimp only[h]|refine RgK.mk rfl ?_|refine aA.c (by first|exact inside _ _ _) ?_|refine And.intro (by first|rfl|omega|decide|exact aFs (by assumption)|(refine⟨?_,?_⟩<;>(first|rfl|omega|decide|exact aFs (by assumption)))|(refine⟨?_,?_,?_⟩<;>(first|rfl|omega|decide|exact aFs (by assumption)))|(refine⟨?_,?_,?_,?_⟩<;>(first|rfl|omega|decide|exact aFs (by assumption)))) ?_|fail
 all_goals(simp_all [wU,IntKind.bits])
theorem isDigit (n:Int):Fz F.wE [.v (.int .u8 n)] (.v (.bool (aAw n))):=by
 refine fn0 Cd.i_isDigit_k λX=>?_
 repeat' first|simp -dsimp only[go_sem]|apply Br.mk<;>intro h<;>try simp -dsimp only[h]|refine aC ?_|refine aC9 ?_|fail
 all_goals(first|(simp_all [aAw];done)|(simp_all [aAw];omega))
theorem aO6 (n:Int):Fz F.zI [.v (.int .u8 n)] (.tup [.v (.int .i64 (cdP n).1),.v (.bool (cdP n).2)]):=by
 refine fn0 Cd.i_CodeOf_k λX=>?_
 repeat' first|simp -dsimp only[go_sem]|apply Br.mk<;>intro h<;>try simp -dsimp only[h]|refine aA.c (by first|exact aOU _|exact isDigit _) ?_|refine aC ?_|refine aC9 ?_|fail
 all_goals(first|(simp_all [cdP,btw,orI];done)|(refine aR ?_;grind [cdP,btw,orI]))
def cd3 (n:Int):Int:=(cdP n).1
theorem codeOf (n:Int):Fz F.wG [.v (.int .u8 n)] (.v (.int .i64 (cd3 n))):=by
 refine fn0 Cd.i_codeOf_k λX=>?_
 repeat' first|simp -dsimp only[go_sem]|apply Br.mk<;>intro h<;>try simp -dsimp only[h]|refine aA.c (by first|exact aO6 _) ?_|refine aC ?_|refine aC9 ?_|fail
 all_goals(simp_all [cd3])
def chB (i:Nat):Nat:=(CH.data.toList.getD i 0).toNat
set_option maxRecDepth 100000 in
theorem aNp:∀i:Nat,i<40->cd3 (chB i)=l03 (chB i)∧0<=l03 (chB i):=by decide +kernel
def rkF (m:Int):Nat->Nat->Int
 |0,_=>-1
 |k+1,i=>if l03 (chB i)=m then i else rkF m k (i+1)
def rk (m:Int):Int:=rkF m 40 0
theorem aFX (m:Int) {i:Nat} (h:i<40):rkF m (40-i) i=if l03 (chB i)=m then(i:Int) else rkF m (40-(i+1)) (i+1):=by
 rw[show 40-i=(40-(i+1))+1 by omega,rkF]
theorem aFb (m:Int):∀(k i:Nat),k+i=40->-1<=rkF m k i∧rkF m k i<40∧(0<=rkF m k i->l03 (chB (rkF m k i).toNat)=m)
 |0,_,_=>by simp[rkF]
 | k+1,i,h=>by
  rw[rkF];split
  .rename_i F;exact⟨by omega,by omega,λ_=>by simpa using F⟩
  .exact aFb m k (i+1) (by omega)
theorem aDd (m:Int):-1<=rk m∧rk m<40:=⟨(aFb m 40 0 rfl).1,(aFb m 40 0 rfl).2.1⟩
theorem aIh {m:Int} (h:0<=rk m):l03 (chB (rk m).toNat)=m:=(aFb m 40 0 rfl).2.2 h
theorem aKL {a b:Int} (h:0<=rk a) (F:rk a=rk b):a=b:=by
 rw[←aIh h,F,aIh (F ▸ h)]
theorem chL (i:Nat):(([32,38,65,66,67,68,69,70,71,72,73,45,74,75,76,77,78,79,80,81,82,47,83,84,85,86,87,88,89,90,48,49,50,51,52,53,54,55,56,57]:List UInt8).getD i 0).toNat=chB i:=rfl
theorem chS:(⟨#[32,38,65,66,67,68,69,70,71,72,73,45,74,75,76,77,78,79,80,81,82,47,83,84,85,86,87,88,89,90,48,49,50,51,52,53,54,55,56,57]⟩:ByteArray).size=40:=rfl
attribute [local irreducible] chB rk cd3
theorem aDi (m:Int):Fz F.qX [.v (.int .i64 m)] (.v (.int .i64 (rk m))):=by
 refine fn0 Cd.i_rankOf_k λX=>?_;simp -dsimp only[go_sem];refine aP.at dM (X:={zz:Nat×(Unit) // zz.1<=40∧rkF m (40-zz.1) zz.1=rk m}) (λzz=>[(3,.v (.int .i64 zz.1.1))]) (λzz=>[]) (λzz=>40-zz.1.1) ⟨(0,()),by omega,by unfold rk;rfl⟩ ?_ ?_
 .exact le0
 .rintro⟨⟨i,_⟩,hi,hg⟩;dsimp only at hi hg;simp -dsimp only[go_sem];refine Br.mk (λhc=>?_) λhc=>?_
  .have hlt:i<40:=Dq;have hw:=aJ hlt (by omega);rw[aFX m hlt] at hg;have hcb:=(aNp i hlt).1;by_cases hz:l03 (chB i)=m
   .have ez:(l03 (chB i)==m)=true:=BO.2 hz;rw[AP hz] at hg
    repeat' first|simp -dsimp only[go_sem,hw,chL,chS,hcb,ez]|apply Br.mk<;>intro h<;>try simp -dsimp only[h]|refine aA.c (by first|exact codeOf _) ?_|refine aC ?_|refine aC9 ?_|fail
    all_goals simp[←hg]
   .have ez:(l03 (chB i)==m)=false:=AB.2 hz;rw[AC hz] at hg
    repeat' first|simp -dsimp only[go_sem,hw,chL,chS,hcb,ez]|apply Br.mk<;>intro h<;>try simp -dsimp only[h]|refine aA.c (by first|exact codeOf _) ?_|refine aC ?_|refine aC9 ?_|fail
    all_goals(exact nx (i+1,()) hg)
  .have hge:i=40:=by
    have:¬i<40:=Dq;omega
   subst hge;simp -dsimp only[go_sem];have:rk m=-1:=by rw[←hg];rfl
   simp[this]
end
section
variable [Vs.Envs]
attribute [local irreducible] Vs.Fn dJ bB dK dL l03 chB rk cd3
def cU (n:Int):List AV:=[.v (.int .u8 n)]
theorem mK:∀l:List Int,tJ (E cU l)=some l
 | []=>rfl
 | n::r=>by
  have:=mK r;simp only[E,Bt,cU,tJ] at this⊢;rw[this]
def chI (m:Int):Int:=(chB (rk m).toNat:Int)
def txt (l:List Int):ByteArray:=jD (l.map chI)
def cK (l:List Int):Bool:=l.all λm=>decide (0<=rk m)
theorem aOQ:∀i:Nat,i<40->chB i<256:=λi _=>by unfold chB;exact UInt8.toNat_lt _
theorem aLF (m:Int):Fz F.bY [.v (.int .i64 m)] (.v (.bool (decide (rk m<0)))):=by
 refine fn0 Cd.i_hasCharacters_1_k λX=>?_
 repeat' first|simp -dsimp only[go_sem]|apply Br.mk<;>intro h<;>try simp -dsimp only[h]|refine aA.c (by first|exact aDi _) ?_|refine aC ?_|refine aC9 ?_|fail
 all_goals(simp_all)
theorem idxCh (l:List Int) (G:l.length<=1048576):Fz F.kF [.sl 1 (E cI l),.fn F.bY []] (.v (.int .i64 (uW (λm=>decide (rk m<0)) l))):=
 aHy Tryz.mixed Cd.ixf_int64_k.o Cd.ixf_int64_k.n Cd.ixf_int64_k.r rfl (λm=>decide (rk m<0)) F.bY [] rfl (λm H=>aLF m) G
theorem conCh (l:List Int) (G:l.length<=1048576):Fz F.l6 [.sl 1 (E cI l),.fn F.bY []] (.v (.bool (l.any (λm=>decide (rk m<0))))):=
 aGJ Tryz.mixed (g:=F.kF) Cd.ctf_int64_k.o Cd.ctf_int64_k.n Cd.ctf_int64_k.r rfl (λm=>decide (rk m<0)) F.bY [] rfl (idxCh l G)
theorem aEU (l:List Int):(!l.any λm=>decide (rk m<0))=cK l:=by
 unfold cK
 induction l with
 |nil=>rfl
 | cons x r ih =>
  simp only[List.any_cons,BJ,Bool.not_or,ih];congr 1;by_cases h:rk x<0<;>simp[h]<;>omega
theorem aEe (l:List Int) (G:l.length<=1048576):Fz F.jS [.sl 1 (E cI l)] (.v (.bool (cK l))):=by
 refine fn0 Cd.i_hasCharacters_k λX=>?_
 repeat' first|simp -dsimp only[go_sem]|apply Br.mk<;>intro h<;>try simp -dsimp only[h]|refine aA.c (by first|exact conCh l G) ?_|refine aC ?_|refine aC9 ?_|fail
 all_goals(first|(simp_all [aEU];done)|(refine aR ?_;have e:=aEU l;simp_all))
theorem aDF  : Fz F.nC [] (.v (.string ⟨#[32,38,65,66,67,68,69,70,71,72,73,45,74,75,76,77,78,79,80,81,82,47,83,84,85,86,87,88,89,90,48,49,50,51,52,53,54,55,56,57]⟩)):=by
 refine fn0 Cd.s_l03Order_k λX=>?_
 repeat' first|simp -dsimp only[go_sem]|apply Br.mk<;>intro h<;>try simp -dsimp only[h]|refine aC ?_|refine aC9 ?_|fail
 all_goals(simp_all)
theorem aNY:(⟨#[32,38,65,66,67,68,69,70,71,72,73,45,74,75,76,77,78,79,80,81,82,47,83,84,85,86,87,88,89,90,48,49,50,51,52,53,54,55,56,57]⟩:ByteArray)=CH:=rfl
theorem uR:CH.size=40:=rfl
theorem aI9 (i:Nat):(CH.data.toList.getD i 0).toNat=chB i:=by unfold chB;rfl
set_option maxRecDepth 100000 in
theorem aIX:∀i:Nat,i<40->∀j:Nat,j<40->chB i=chB j->i=j:=by decide +kernel
def aGl (m:Int):Int×Bool:=if 0<=rk m then(chI m,true) else(0,false)
theorem aID (m:Int):Fz F.vJ [.v (.int .i64 m)] (.tup [.v (.int .u8 (aGl m).1),.v (.bool (aGl m).2)]):=by
 refine fn0 Cd.s_l03Char_k λX=>?_;simp -dsimp only[go_sem];refine aA.flat aDF rfl ?_;simp -dsimp only[go_sem,aNY];refine aP.at dM (X:={zz:Nat×(Unit) // zz.1<=40∧rkF m (40-zz.1) zz.1=rk m}) (λzz=>[(5,.v (.int .i64 zz.1.1))]) (λzz=>[]) (λzz=>40-zz.1.1) ⟨(0,()),by omega,by unfold rk;rfl⟩ ?_ ?_
 .exact le0
 .rintro⟨⟨i,_⟩,hi,hg⟩;dsimp only at hi hg;simp -dsimp only[go_sem,uR];refine Br.mk (λhc=>?_) λhc=>?_
  .have hlt:i<40:=Dq;have hw:=aJ hlt (by omega);rw[aFX m hlt] at hg;have h8:i<CH.size:=hlt;by_cases hz:l03 (chB i)=m
   .have ez:(l03 (chB i)==m)=true:=BO.2 hz;rw[AP hz] at hg
    repeat' first|simp -dsimp only[go_sem,hw,uR,aI9,ez]|apply Br.mk<;>intro h<;>try simp -dsimp only[h]|refine aA.c (by first|exact aBi _) ?_|refine aC ?_|refine aC9 ?_|fail
    all_goals first
     |(refine aR ?_;have hr:rk m=(i:Int):=hg.symm;simp[aGl,chI,hr];done)
     |omega
   .have ez:(l03 (chB i)==m)=false:=AB.2 hz;rw[AC hz] at hg
    repeat' first|simp -dsimp only[go_sem,hw,uR,aI9,ez]|apply Br.mk<;>intro h<;>try simp -dsimp only[h]|refine aA.c (by first|exact aBi _) ?_|refine aC ?_|refine aC9 ?_|fail
    all_goals first|omega|(exact nx (i+1,()) hg)
  .have hge:i=40:=by
    have:¬i<40:=Dq;omega
   subst hge;simp -dsimp only[go_sem,uR];have:rk m=-1:=by rw[←hg];rfl
   simp[aGl,this]
theorem aFo (k:Nat) (hk:k<40):Fz F.sG [.v (.int .u8 (chB k))] (.v (.int .i64 (k:Int))):=by
 refine fn0 Cd.s_l03Rank_k λX=>?_;simp -dsimp only[go_sem];refine aA.flat aDF rfl ?_;simp -dsimp only[go_sem,aNY];refine aP.at dM (X:={zz:Nat×(Unit) // zz.1<=40∧zz.1<=k}) (λzz=>[(4,.v (.int .i64 zz.1.1))]) (λzz=>[]) (λzz=>40-zz.1.1) ⟨(0,()),by omega,by omega⟩ ?_ ?_
 .exact le0
 .rintro⟨⟨i,_⟩,hi,hg⟩;dsimp only at hi hg;simp -dsimp only[go_sem,uR];refine Br.mk (λhc=>?_) λhc=>?_
  .have hlt:i<40:=Dq;have hw:=aJ hlt (by omega);have h8:i<CH.size:=hlt;by_cases hz:i=k
   .subst hz;have ez:((chB i:Int)==(chB i:Int))=true:=BO.2 rfl
    repeat' first|simp -dsimp only[go_sem,hw,uR,aI9,ez]|apply Br.mk<;>intro h<;>try simp -dsimp only[h]|refine aC ?_|refine aC9 ?_|fail
    all_goals first|(simp_all;done)|omega
   .have ez:((chB i:Int)==(chB k:Int))=false:=AB.2 (λh=>hz (aIX i hlt k hk (by omega)))
    repeat' first|simp -dsimp only[go_sem,hw,uR,aI9,ez]|apply Br.mk<;>intro h<;>try simp -dsimp only[h]|refine aC ?_|refine aC9 ?_|fail
    all_goals first|omega|(exact nx (i+1,()) (by dsimp only at hg⊢;omega))
  .have hge:i=40:=by
    have:¬i<40:=Dq;omega
   subst hge;simp -dsimp only[go_sem,uR];omega
end
end Go.Proofs.YtklmdppgonhflaaGreatDoor
