/- Texts of nW, and how they are compared. -/
import Derived.Test.YtmiiohemehacjaaGreatDoorXuB
import Derived.Test.YtmiiohemehacjaaGreatDoorXwSb
import Derived.Test.YtmiiohemehacjaaGreatDoorVtR
import Derived.Test.YtmiiohemehacjaaGreatDoorVtO
import Derived.Test.YtmiiohemehacjaaGreatDoorXuF
import Derived.Test.YtmiiohemehacjaaGreatDoorXuR
set_option linter.all false
set_option maxHeartbeats 8000000
namespace Go.Proofs.YtmiiohemehacjaaGreatDoor
open Go.Vs
section
variable [Vs.Envs]
attribute [local irreducible] Vs.Fn
theorem iH {m:List Int}{j:Nat} (h:j<m.length):(E cI m).getD j []=[.v (.int .i64 (m.getD j 0))]:=by
 rw[aR h];simp[cI,List.getD,h]
theorem aH8 (m:List Int) (i j:Nat):((E cI m).set i [.v (.int .i64 (m.getD j 0))]).set j [.v (.int .i64 (m.getD i 0))]=E cI (swp m i j):=by
 simp[swp,E,Db,cI]
theorem aAE {m:List Int} (i:Nat) {j:Nat} (hj:j<m.length) (v:AV):∃y,((E cI m).set i [v]).getD j []=[y]:=by
 by_cases h:i=j
 .subst h;exact⟨v,by simp[List.getD,E,hj]⟩
 .refine⟨.v (.int .i64 (m.getD j 0)),?_⟩;rw[Bc,List.getElem?_set_ne h,←Bc];rw[aR hj];simp[cI,List.getD,hj]
theorem addN {a b:Nat} (h:a+b<=4000000):IntKind.i64.wrap ((a:Int)+(b:Int))=((a+b:Nat):Int):=by rw[aM (by omega) (by omega)];omega
theorem xC {a b:Nat} (h:b<=a) (ha:a<=4000000):IntKind.i64.wrap ((a:Int)-(b:Int))=((a-b:Nat):Int):=by rw[aM (by omega) (by omega)];omega
theorem add1 {a:Nat} (h:a<=4000000):IntKind.i64.wrap ((a:Int)+1)=((a+1:Nat):Int):=by rw[aM (by omega) (by omega)];omega
theorem aJf {a:Nat} (h:1<=a) (ha:a<=4000000):IntKind.i64.wrap ((a:Int)-1)=((a-1:Nat):Int):=by rw[aM (by omega) (by omega)];omega
theorem half {a b:Nat} (h:a+b<=4000000):IntKind.i64.wrap ((IntKind.u64.wrap (((a+b:Nat):Int))).fdiv (2 ^ (min 1 64)))=(((a+b)/2:Nat):Int):=by
 rw[show(min 1 64:Nat)=1 from rfl]
 have e:IntKind.u64.wrap (((a+b:Nat):Int))=((a+b:Nat):Int):=by
  simp only[IntKind.wrap,IntKind.bits,IntKind.signed,Dy,A8,Bg];omega
 rw[e,Int.fdiv_eq_ediv_of_nonneg _ (by omega),aM (by omega) (by omega)];omega
theorem aAV {l:List Int}{i j:Nat} (hi:i<l.length) (hj:j<l.length):∀x,x∈swp l i j->x∈l:=by
 intro x hx;unfold swp at hx;rcases CJ hx with h|rfl
 .rcases CJ h with h|rfl
  .exact h
  .exact fT hj
 .exact fT hi
theorem aJc (n a b:Nat) (l:List Int):swR (n+1) a b l=swR n (a+1) (b+1) (swp l a b):=rfl
attribute [local irreducible] swp
theorem swapRange (g:FuncId) (caps:List AV) (hcaps:jD caps=true) (l:List Int) (a b n:Nat) (hl:l.length<=1048576) (ha:a+n<=l.length) (hb:b+n<=l.length) :
  Vs.Fn Tryz.prog F.gZ [.arr 1 (E cI l) false] [.loc (.b 0) 0 l.length,.v (.int .i64 (a:Nat)),.v (.int .i64 (b:Nat)),.v (.int .i64 (n:Nat)),.fn g caps] (.tup []) [some (.arr 1 (E cI (swR n a b l)) false)]:=by
 refine fn1 Cd.swapR_int64__k [.b 0] [.arr 1 (E cI (swR n a b l)) false] λX=>?_;unfold Cd.gZ;simp -dsimp only[go_sem];refine aO.at dM (X:={zz:Nat×(List Int) // zz.1<=n∧swR (n-zz.1) (a+zz.1) (b+zz.1) zz.2=swR n a b l∧zz.2.length=l.length}) (λzz=>[(10,.v (.int .i64 zz.1.1))]) (λzz=>[(.b 0,.arr 1 (E cI zz.1.2) false)]) (λzz=>n-zz.1.1) ⟨(0,l),by omega,⟨rfl,rfl⟩⟩ ?_ ?_
 .exact le0
 .rintro⟨⟨i,m⟩,hi,hg⟩;dsimp only at hi hg;simp -dsimp only[go_sem];refine Br.mk (λhc=>?_) λhc=>?_
  .have hlt:i<n:=Dq;have hw:=aI hlt (by omega);obtain⟨hr,hlen⟩:=hg;have w1:=addN (a:=a) (b:=i) (by omega);have w2:=addN (a:=b) (b:=i) (by omega);have g1:=iH (m:=m) (j:=a+i) (by omega);have g2:=iH (m:=m) (j:=b+i) (by omega);have hs:=aH8 m (a+i) (b+i);have hln:(E cI m).length=l.length:=by rw[aH];exact hlen
   obtain⟨y,g3⟩:=aAE (m:=m) (a+i) (j:=b+i) (by omega) (.v (.int .i64 (m.getD (b+i) 0)));have hsl:(swp m (a+i) (b+i)).length=l.length:=by rw[d9];exact hlen
   rw[show n-i=(n-(i+1))+1 by omega,aJc] at hr
   repeat' first|simp -dsimp only[go_sem,hw,w1,w2,g1,g2,g3,hs,hln,Ac,Aa,Ab]|apply Br.mk<;>intro h<;>try simp -dsimp only[h]|refine aC ?_|fail
   all_goals first|omega|(exact nx (i+1,swp m (a+i) (b+i)) (⟨hr,hsl⟩))
  .have hge:i=n:=by
    have:¬i<n:=Dq;omega
   subst hge;simp -dsimp only[go_sem];rw[C9] at hg;have hm:m=swR i a b l:=hg.1;rw[←hm];exact⟨⟨_,_,rfl,rfl⟩,λh=>h rfl⟩
attribute [local irreducible] swR
attribute [local go_sem] AO AP Ak AA Af Ad in
theorem rotate (g:FuncId) (caps:List AV) (hcaps:jD caps=true) (l:List Int) (a m b:Nat) (hl:l.length<=1048576) (ham:a<m) (hmb:m<b) (hb:b<=l.length) :
  Vs.Fn Tryz.prog F.jP [.arr 1 (E cI l) false] [.loc (.b 0) 0 l.length,.v (.int .i64 (a:Nat)),.v (.int .i64 (m:Nat)),.v (.int .i64 (b:Nat)),.fn g caps] (.tup []) [some (.arr 1 (E cI (rot m (b-a) (m-a) (b-m) l)) false)]:=by
 have w1:=xC (a:=m) (b:=a) (by omega) (by omega);have w2:=xC (a:=b) (b:=m) (by omega) (by omega);refine fn1 Cd.rotate_int64__k [.b 0] [.arr 1 (E cI (rot m (b-a) (m-a) (b-m) l)) false] λX=>?_;unfold Cd.jP;simp -dsimp only[go_sem,w1,w2];refine aO.at dM (X:={zz:Nat×Nat×List Int // (0<zz.1∧0<zz.2.1∧zz.1<=m∧m+zz.2.1<=b)∧zz.2.2.length=l.length∧∃f,zz.1+zz.2.1<=f∧rot m f zz.1 zz.2.1 zz.2.2=rot m (b-a) (m-a) (b-m) l}) (λzz=>[(10,.v (.int .i64 zz.1.1)),(11,.v (.int .i64 zz.1.2.1))]) (λzz=>[(.b 0,.arr 1 (E cI zz.1.2.2) false)]) (λzz=>zz.1.1+zz.1.2.1) ⟨(m-a,b-m,l),⟨by dsimp only;omega,by dsimp only;omega,by dsimp only;omega,by dsimp only;omega⟩,rfl,b-a,by dsimp only;omega,rfl⟩ ?_ ?_
 .exact le0
 .rintro⟨⟨i,j,d⟩,⟨hi0,hj0,him,hjb⟩,hd,f,hf,hr⟩;dsimp only at hi0 hj0 him hjb hd hf hr;have hdl:(E cI d).length=l.length:=by rw[aH];exact hd
  have w3:=xC (a:=m) (b:=i) (by omega) (by omega);have w4:=addN (a:=m) (b:=j) (by omega);have w5:=xC (a:=m+j) (b:=i) (by omega) (by omega);cases f with
  |zero=>omega
  |succ f =>
  rw[rot] at hr;by_cases he:i=j
  .subst he;rw[AY rfl] at hr;have e1:((i:Int) != (i:Int))=false:=by simp
   have CS:=swapRange g caps hcaps d (m-i) m i (by omega) (by omega) (by omega);rw[hd] at CS;simp -dsimp only[go_sem,w3,w4,w5,e1,hdl,hd,aG hcaps _ 6,aG hcaps _ 7,aX,bG,aW];refine⟨⟨rfl,aA.bor CS rfl ?_⟩,λh=>h rfl⟩;simp -dsimp only[go_sem,w3,w4,w5,hdl,hd,A7,aX,bG,aW];rw[←hr];exact⟨_,_,rfl,rfl⟩
  .rw[AJ he] at hr;have e1:((i:Int) != (j:Int))=true:=by simp;omega
   by_cases hgt:j<i
   .rw[AY hgt] at hr;have e2:decide ((i:Int)>(j:Int))=true:=by simp;omega
    have w6:=xC (a:=i) (b:=j) (by omega) (by omega);have CS:=swapRange g caps hcaps d (m-i) m j (by omega) (by omega) (by omega);rw[hd] at CS;simp -dsimp only[go_sem,w3,w4,w5,w6,e1,e2,hdl,hd,aG hcaps _ 6,aG hcaps _ 7,aX,bG,aW];refine⟨rfl,aA.bor CS rfl ?_⟩;simp -dsimp only[go_sem,w3,w4,w5,w6,hdl,hd,A7,aX,bG,aW];exact⟨⟨(i-j,j,swR j (m-i) m d),⟨by dsimp only;omega,by dsimp only;omega,by dsimp only;omega,by dsimp only;omega⟩,by dsimp only;rw[kC];exact hd,f,by dsimp only;omega,hr⟩,by simp[Vs.LeL,Vs.look,aB,aP,aJ,Vs.hset,aK],by simp only;omega⟩
   .rw[AJ hgt] at hr;have e2:decide ((i:Int)>(j:Int))=false:=by simp;omega
    have w6:=xC (a:=j) (b:=i) (by omega) (by omega);have CS:=swapRange g caps hcaps d (m-i) (m+j-i) i (by omega) (by omega) (by omega);rw[hd] at CS;simp -dsimp only[go_sem,w3,w4,w5,w6,e1,e2,hdl,hd,aG hcaps _ 6,aG hcaps _ 7,aX,bG,aW];refine⟨rfl,aA.bor CS rfl ?_⟩;simp -dsimp only[go_sem,w3,w4,w5,w6,hdl,hd,A7,aX,bG,aW];exact⟨⟨(i,j-i,swR i (m-i) (m+j-i) d),⟨by dsimp only;omega,by dsimp only;omega,by dsimp only;omega,by dsimp only;omega⟩,by dsimp only;rw[kC];exact hd,f,by dsimp only;omega,hr⟩,by simp[Vs.LeL,Vs.look,aB,aP,aJ,Vs.hset,aK],by simp only;omega⟩
def aBi (P:Program) (g:FuncId) (caps:List AV) (cf:Int->Int->Int) (D:Int->Prop):Prop:=
 ∀x y,D x->D y->Vs.Fn P g [] (.v (.int .i64 x)::.v (.int .i64 y)::caps) (.v (.int .i64 (cf x y))) []
def ltf (cf:Int->Int->Int) (x y:Int):Bool:=decide (cf x y<0)
theorem lY {m:List Int}{D:Int->Prop} (h:∀x,x∈m->D x) {i:Nat} (hi:i<m.length):D (m.getD i 0):=h _ (fT hi)
attribute [local irreducible] rot
theorem insertion (g:FuncId) (caps:List AV) (hcaps:jD caps=true) (cf:Int->Int->Int) (D:Int->Prop) (hc:aBi Tryz.prog g caps cf D) (l:List Int) (hD:∀x,x∈l->D x) (a b:Nat) (hl:l.length<=1048576) (hab:a<=b) (hb:b<=l.length) :
  Vs.Fn Tryz.prog F.gI [.arr 1 (E cI l) false] [.loc (.b 0) 0 l.length,.v (.int .i64 (a:Nat)),.v (.int .i64 (b:Nat)),.fn g caps] (.tup []) [some (.arr 1 (E cI (qE (ltf cf) a b l)) false)]:=by
 have w1:=add1 (a:=a) (by omega);refine fn1 Cd.insort_int64__k [.b 0] [.arr 1 (E cI (qE (ltf cf) a b l)) false] λX=>?_;unfold Cd.gI;simp -dsimp only[go_sem,w1];refine aO.at dM (X:={zz:Nat×List Int // (a+1<=zz.1)∧zz.2.length=l.length∧(∀x,x∈zz.2->D x)∧wH (ltf cf) a (b-zz.1) zz.1 zz.2=qE (ltf cf) a b l}) (λzz=>[(8,.v (.int .i64 zz.1.1))]) (λzz=>[(.b 0,.arr 1 (E cI zz.1.2) false)]) (λzz=>b-zz.1.1) ⟨(a+1,l),by dsimp only;omega,rfl,hD,rfl⟩ ?_ ?_
 .exact le0
 .rintro⟨⟨i,m⟩,hai,hm,hDm,hr⟩;dsimp only at hai hm hDm hr;have hml:(E cI m).length=l.length:=by rw[aH];exact hm
  have w2:∀k:Nat,k<=i->i<b->IntKind.i64.wrap ((k:Int)+1)=((k+1:Nat):Int):=λk h1 h2=>add1 (by omega);simp -dsimp only[go_sem];refine Br.mk (λhlt=>?_) λhlt=>?_
  .have hib:i<b:=by simpa using hlt
   have w3:=w2 i (AL _) hib;rw[show b-i=(b-(i+1))+1 by omega,wH] at hr;simp -dsimp only[go_sem];refine aO.at dM (X:={zz:Nat×List Int // (a<=zz.1∧zz.1<=i)∧zz.2.length=l.length∧(∀x,x∈zz.2->D x)∧w9 (ltf cf) a zz.1 zz.2=w9 (ltf cf) a i m}) (λzz=>[(9,.v (.int .i64 zz.1.1))]) (λzz=>[(.b 0,.arr 1 (E cI zz.1.2) false)]) (λzz=>zz.1.1) ⟨(i,m),⟨by dsimp only;omega,by dsimp only;omega⟩,hm,hDm,rfl⟩ ?_ ?_
   .exact le0
   .rintro⟨⟨j,d⟩,⟨haj,hji⟩,hd,hDd,hr2⟩;dsimp only at haj hji hd hDd hr2;have hdl:(E cI d).length=l.length:=by rw[aH];exact hd
    by_cases hja:j=a
    .have e1:decide ((j:Int)>(a:Int))=false:=by simp;omega
     repeat' first|simp -dsimp only[go_sem,w2,w3,e1,hdl,hd]|apply Br.mk<;>intro h<;>try simp -dsimp only[h]|refine aC ?_|fail
     rw[hja,aD9] at hr2;rw[←hr2] at hr;exact⟨⟨⟨(i+1,d),by dsimp only;omega,hd,hDd,hr⟩,by simp[Vs.LeL,Vs.look,aB,aP,aJ,Vs.hset,aK],by simp only;omega⟩,λh=>absurd rfl h⟩
    .have e1:decide ((j:Int)>(a:Int))=true:=by simp;omega
     obtain⟨j,rfl⟩:∃k,j=k+1:=⟨j-1,by omega⟩;have w4:=aJf (a:=j+1) (by omega) (by omega);have g1:=iH (m:=d) (j:=j+1) (by omega);have g2:=iH (m:=d) (j:=j) (by omega);rw[Nat.add_sub_cancel] at w4;have hcc:=hc _ _ (lY hDd (i:=j+1) (by omega)) (lY hDd (i:=j) (by omega));have hsw:=aH8 d (j+1) j;obtain⟨y,g3⟩:=aAE (m:=d) (j+1) (j:=j) (by omega) (.v (.int .i64 (d.getD j 0)));have hsl:(swp d (j+1) j).length=l.length:=by rw[d9];exact hd
     have hsD:∀x,x∈swp d (j+1) j->D x:=λx hx=>hDd x (aAV (by omega) (by omega) x hx);rw[w9] at hr2;by_cases hlt2:cf (d.getD (j+1) 0) (d.getD j 0)<0
     .have e2:decide (cf (d.getD (j+1) 0) (d.getD j 0)<0)=true:=AR hlt2;rw[AY ⟨by omega,e2⟩] at hr2
      repeat' first|simp -dsimp only[go_sem,w3,w4,e1,e2,g1,g2,g3,hsw,hdl,hd,aG hcaps _ 6,aG hcaps _ 7,Ac,Aa,Ab]|apply Br.mk<;>intro h<;>try simp -dsimp only[h]|refine aA.c (by first|exact hcc) ?_|refine aC ?_|fail
      all_goals first|omega|(exact⟨⟨(j,swp d (j+1) j),⟨by dsimp only;omega,by dsimp only;omega⟩,hsl,hsD,hr2⟩,by simp[Vs.LeL,Vs.look,aB,aP,aJ,Vs.hset,aK],by simp only;omega⟩)
     .have e2:decide (cf (d.getD (j+1) 0) (d.getD j 0)<0)=false:=AX hlt2;rw[AJ (λh=>hlt2 (by simpa[ltf] using h.2))] at hr2;rw[←hr2] at hr
      repeat' first|simp -dsimp only[go_sem,w3,w4,e1,e2,g1,g2,g3,hsw,hdl,hd,aG hcaps _ 6,aG hcaps _ 7,Ac,Aa,Ab]|apply Br.mk<;>intro h<;>try simp -dsimp only[h]|refine aA.c (by first|exact hcc) ?_|refine aC ?_|fail
      all_goals first|omega|(exact⟨⟨⟨(i+1,d),by dsimp only;omega,hd,hDd,hr⟩,by simp[Vs.LeL,Vs.look,aB,aP,aJ,Vs.hset,aK],by simp only;omega⟩,λh=>absurd rfl h⟩)
  .have hz:b-i=0:=by
    have:¬i<b:=by simpa using hlt
    omega
   rw[hz,wH] at hr;simp -dsimp only[go_sem];rw[←hr];exact⟨⟨_,_,rfl,rfl⟩,λh=>h rfl⟩
end
section
variable [Vs.Envs]
attribute [local irreducible] Vs.Fn swp swR rot wH w9 mvU mvD smg
theorem aDB (p:Nat->Bool):∀(n i j:Nat),j-i<=n->i<=j->i<=bs p i j∧bs p i j<=j
 |0,i,j,h,hij=>by rw[tN p (by omega)];omega
 | n+1,i,j,h,hij=>by
  by_cases hlt:i<j
  .cases hp:p ((i+j)/2)
   .rw[aEq p hlt hp];have:=aDB p n i ((i+j)/2) (by omega) (by omega);omega
   .rw[aBH p hlt hp];have:=aDB p n ((i+j)/2+1) j (by omega) (by omega);omega
  .rw[tN p hlt];omega
theorem aHD:∀(n k:Nat) (l:List Int),k+n<l.length->∀x,x∈mvU n k l->x∈l
 |0,_,_,_,x,h=>by unfold mvU at h;exact h
 | n+1,k,l,hk,x,h=>by
  unfold mvU at h;exact aAV (by omega) (by omega) x (aHD n (k+1) _ (by rw[d9];omega) x h)
theorem aJQ (n k:Nat) (l:List Int):mvU (n+1) k l=mvU n (k+1) (swp l k (k+1)):=by rw[mvU]
theorem aJS (n k:Nat) (l:List Int):mvD (n+1) k l=mvD n (k-1) (swp l k (k-1)):=by rw[mvD]
theorem aCq:∀(n a b:Nat) (l:List Int),a+n<=l.length->b+n<=l.length->∀x,x∈swR n a b l->x∈l
 |0,_,_,_,_,_,x,h=>by unfold swR at h;exact h
 | n+1,a,b,l,ha,hb,x,h=>by
  unfold swR at h;exact aAV (by omega) (by omega) x (aCq n (a+1) (b+1) _ (by rw[d9];omega) (by rw[d9];omega) x h)
theorem aAW (m:Nat):∀(f i j:Nat) (l:List Int),i<=m->m+j<=l.length->∀x,x∈rot m f i j l->x∈l
 |0,_,_,_,_,_,x,h=>by unfold rot at h;exact h
 | f+1,i,j,l,hi,hj,x,h=>by
  unfold rot at h;split at h
  .exact aCq i (m-i) m l (by omega) (by omega) x h
  .split at h
   .exact aCq j (m-i) m l (by omega) (by omega) x (aAW m f (i-j) j _ (by omega) (by rw[kC];omega) x h)
   .exact aCq i (m-i) (m+j-i) l (by omega) (by omega) x (aAW m f i (j-i) _ (by omega) (by rw[kC];omega) x h)
attribute [local go_sem] Ac Aa Ab A7 AO AP Ak AA Af Ad in
theorem sym1 (g:FuncId) (caps:List AV) (hcaps:jD caps=true) (cf:Int->Int->Int) (D:Int->Prop) (hc:aBi Tryz.prog g caps cf D) (l:List Int) (hD:∀x,x∈l->D x) (a b:Nat) (hl:l.length<=1048576) (hmb:a+1<b) (hb:b<=l.length) :
  Vs.Fn Tryz.prog F.aY [.arr 1 (E cI l) false] [.loc (.b 0) 0 l.length,.v (.int .i64 (a:Nat)),.v (.int .i64 ((a+1:Nat):Int)),.v (.int .i64 (b:Nat)),.fn g caps] (.tup [])
   [some (.arr 1 (E cI (mvU (bs (λh=>ltf cf (l.getD h 0) (l.getD a 0)) (a+1) b-1-a) a l)) false)]:=by
 have w1:IntKind.i64.wrap (((a+1:Nat):Int)-(a:Int))=1:=by rw[aM (by omega) (by omega)];omega
 have hll:(E cI l).length=l.length:=aH ..
 have g0:=iH (m:=l) (j:=a) (by omega);have e28:((1:Int)==1)=true:=rfl;refine fn1 Cd.symMerge_int64__k [.b 0] [.arr 1 (E cI (mvU (bs (λh=>ltf cf (l.getD h 0) (l.getD a 0)) (a+1) b-1-a) a l)) false] λX=>?_;unfold Cd.aY;simp -dsimp only[go_sem,w1,e28];refine aO.at dM (X:={zz:Nat×Nat // (a+1<=zz.1∧zz.1<=zz.2∧zz.2<=b)∧bs (λh=>ltf cf (l.getD h 0) (l.getD a 0)) zz.1 zz.2=bs (λh=>ltf cf (l.getD h 0) (l.getD a 0)) (a+1) (b)}) (λzz=>[(10,.v (.int .i64 zz.1.1)),(11,.v (.int .i64 zz.1.2))]) (λ_=>[]) (λzz=>zz.1.2-zz.1.1) ⟨(a+1,b),⟨by dsimp only;omega,by dsimp only;omega,by dsimp only;omega⟩,rfl⟩ ?_ ?_
 .exact le0
 .rintro⟨⟨i,j⟩,⟨hi0,hij,hj0⟩,hr⟩;dsimp only at hi0 hij hj0 hr;have wij:=addN (a:=i) (b:=j) (by omega);have whf:=half (a:=i) (b:=j) (by omega);simp -dsimp only[go_sem,wij,hll];refine Br.mk (λhlt=>?_) λhlt=>?_
  .have hlt2:i<j:=by simpa using hlt
   obtain⟨h,hh⟩:∃h,h=(i+j)/2:=⟨_,rfl⟩;rw[←hh] at whf;have wh1:=add1 (a:=h) (by omega);have hcc:=hc _ _ (lY hD (i:=h) (by omega)) (lY hD (i:=a) (by omega));have g1:=iH (m:=l) (j:=h) (by omega);by_cases hl2:cf (l.getD h 0) (l.getD a 0)<0
   .have e2:decide (cf (l.getD h 0) (l.getD a 0)<0)=true:=AR hl2;rw[aBH _ hlt2 (by rw[←hh];exact e2),←hh] at hr
    repeat' first|simp -dsimp only[go_sem,wij,whf,wh1,g0,g1,e2,hll,aG hcaps _ 6,aG hcaps _ 7,aX,bG,aW]|apply Br.mk<;>intro h<;>try simp -dsimp only[h]|refine aA.c (by first|exact hcc) ?_|refine aC ?_|fail
    all_goals first|omega|(exact⟨⟨(h+1,j),⟨by dsimp only;omega,by dsimp only;omega,by dsimp only;omega⟩,hr⟩,by simp[Vs.LeL,Vs.look,aB,aP,aJ,Vs.hset,aK],by simp only;omega⟩)
   .have e2:decide (cf (l.getD h 0) (l.getD a 0)<0)=false:=AX hl2;rw[aEq _ hlt2 (by rw[←hh];exact e2),←hh] at hr
    repeat' first|simp -dsimp only[go_sem,wij,whf,wh1,g0,g1,e2,hll,aG hcaps _ 6,aG hcaps _ 7,aX,bG,aW]|apply Br.mk<;>intro h<;>try simp -dsimp only[h]|refine aA.c (by first|exact hcc) ?_|refine aC ?_|fail
    all_goals first|omega|(exact⟨⟨(i,h),⟨by dsimp only;omega,by dsimp only;omega,by dsimp only;omega⟩,hr⟩,by simp[Vs.LeL,Vs.look,aB,aP,aJ,Vs.hset,aK],by simp only;omega⟩)
  .have hge:i=j:=by
    have:¬i<j:=by simpa using hlt
    omega
   subst hge;rw[tN _ (Dr _)] at hr;have wi:=aJf (a:=i) (by omega) (by omega);simp -dsimp only[go_sem,hll,aG hcaps _ 6,aG hcaps _ 7,aX,bG,aW];refine⟨?_,by simp⟩;refine aO.at dM (X:={zz:Nat×List Int // (a<=zz.1∧zz.1<=i-1)∧zz.2.length=l.length∧mvU (i-1-zz.1) zz.1 zz.2=mvU (i-1-a) a l}) (λzz=>[(13,.v (.int .i64 zz.1.1))]) (λzz=>[(.b 0,.arr 1 (E cI zz.1.2) false)]) (λzz=>i-zz.1.1) ⟨(a,l),⟨by dsimp only;omega,by dsimp only;omega⟩,rfl,rfl⟩ ?_ ?_
   .exact le0
   .rintro⟨⟨k,m⟩,⟨hk0,hk1⟩,hm,hq⟩;dsimp only at hk0 hk1 hm hq;have hml:(E cI m).length=l.length:=by rw[aH];exact hm
    simp -dsimp only[go_sem,wi,hml,aG hcaps _ 6,aG hcaps _ 7,aX,bG,aW];refine Br.mk (λhlt=>?_) λhlt=>?_
    .have hlt2:k<i-1:=by first|(simpa using hlt)|(simp at hlt;omega)
     have wk:=add1 (a:=k) (by omega);have g1:=iH (m:=m) (j:=k) (by omega);have g2:=iH (m:=m) (j:=k+1) (by omega);have hsw:=aH8 m k (k+1);obtain⟨y,g3⟩:=aAE (m:=m) k (j:=k+1) (by omega) (.v (.int .i64 (m.getD (k+1) 0)));have hsl:(swp m k (k+1)).length=l.length:=by rw[d9];exact hm
     rw[show i-1-k=(i-1-(k+1))+1 by omega,aJQ] at hq
     repeat' first|simp -dsimp only[go_sem,wk,wi,g1,g2,g3,hsw,hml,aG hcaps _ 6,aG hcaps _ 7,aX,bG,aW]|apply Br.mk<;>intro h<;>try simp -dsimp only[h]|refine aC ?_|fail
     all_goals first|omega|(exact⟨⟨(k+1,swp m k (k+1)),⟨by dsimp only;omega,by dsimp only;omega⟩,hsl,hq⟩,by simp[Vs.LeL,Vs.look,aB,aP,aJ,Vs.hset,aK],by simp only;omega⟩)
    .have hge:k=i-1:=by
      have:¬k<i-1:=by first|(simpa using hlt)|(simp at hlt;omega)
      omega
     subst hge;rw[C9] at hq;have hm0:mvU 0 (i-1) m=m:=by unfold mvU;rfl
     rw[hm0] at hq;simp -dsimp only[go_sem,wi,hml,aG hcaps _ 6,aG hcaps _ 7,aX,bG,aW];rw[←hr,←hq]
     first|exact⟨⟨⟨_,_,rfl,rfl⟩,λh=>h rfl⟩,λh=>h rfl⟩|exact⟨⟨_,_,rfl,rfl⟩,λh=>h rfl⟩
attribute [local go_sem] Ac Aa Ab A7 AO AP Ak AA Af Ad in
theorem sym2 (g:FuncId) (caps:List AV) (hcaps:jD caps=true) (cf:Int->Int->Int) (D:Int->Prop) (hc:aBi Tryz.prog g caps cf D) (l:List Int) (hD:∀x,x∈l->D x) (a m:Nat) (hl:l.length<=1048576) (ham:a+1<m) (hb:m+1<=l.length) :
  Vs.Fn Tryz.prog F.aY [.arr 1 (E cI l) false] [.loc (.b 0) 0 l.length,.v (.int .i64 (a:Nat)),.v (.int .i64 (m:Nat)),.v (.int .i64 ((m+1:Nat):Int)),.fn g caps] (.tup [])
   [some (.arr 1 (E cI (mvD (m-bs (λh=>!ltf cf (l.getD m 0) (l.getD h 0)) a m) m l)) false)]:=by
 have w1:=xC (a:=m) (b:=a) (by omega) (by omega);have w2:IntKind.i64.wrap (((m+1:Nat):Int)-(m:Int))=1:=by rw[aM (by omega) (by omega)];omega
 have hll:(E cI l).length=l.length:=aH ..
 have g0:=iH (m:=l) (j:=m) (by omega);have e28:(((m-a:Nat):Int)==1)=false:=Ap.2 (by omega);have e29:((1:Int)==1)=true:=rfl;refine fn1 Cd.symMerge_int64__k [.b 0] [.arr 1 (E cI (mvD (m-bs (λh=>!ltf cf (l.getD m 0) (l.getD h 0)) a m) m l)) false] λX=>?_;unfold Cd.aY;simp -dsimp only[go_sem,w1,w2,e28,e29];refine aO.at dM (X:={zz:Nat×Nat // (a<=zz.1∧zz.1<=zz.2∧zz.2<=m)∧bs (λh=>!ltf cf (l.getD m 0) (l.getD h 0)) zz.1 zz.2=bs (λh=>!ltf cf (l.getD m 0) (l.getD h 0)) (a) (m)}) (λzz=>[(14,.v (.int .i64 zz.1.1)),(15,.v (.int .i64 zz.1.2))]) (λ_=>[]) (λzz=>zz.1.2-zz.1.1) ⟨(a,m),⟨by dsimp only;omega,by dsimp only;omega,by dsimp only;omega⟩,rfl⟩ ?_ ?_
 .exact le0
 .rintro⟨⟨i,j⟩,⟨hi0,hij,hj0⟩,hr⟩;dsimp only at hi0 hij hj0 hr;have wij:=addN (a:=i) (b:=j) (by omega);have whf:=half (a:=i) (b:=j) (by omega);simp -dsimp only[go_sem,wij,hll];refine Br.mk (λhlt=>?_) λhlt=>?_
  .have hlt2:i<j:=by simpa using hlt
   obtain⟨h,hh⟩:∃h,h=(i+j)/2:=⟨_,rfl⟩;rw[←hh] at whf;have wh1:=add1 (a:=h) (by omega);have hcc:=hc _ _ (lY hD (i:=m) (by omega)) (lY hD (i:=h) (by omega));have g1:=iH (m:=l) (j:=h) (by omega);by_cases hl2:cf (l.getD m 0) (l.getD h 0)<0
   .have e2:decide (cf (l.getD m 0) (l.getD h 0)<0)=true:=AR hl2;rw[aEq _ hlt2 (by rw[←hh];show(!decide (cf (l.getD m 0) (l.getD h 0)<0))=false;rw[e2];rfl),←hh] at hr
    repeat' first|simp -dsimp only[go_sem,wij,whf,wh1,g0,g1,e2,hll,BP,Cb,aG hcaps _ 6,aG hcaps _ 7,aX,bG,aW]|apply Br.mk<;>intro h<;>try simp -dsimp only[h]|refine aA.c (by first|exact hcc) ?_|refine aC ?_|fail
    all_goals first|omega|(exact⟨⟨(i,h),⟨by dsimp only;omega,by dsimp only;omega,by dsimp only;omega⟩,hr⟩,by simp[Vs.LeL,Vs.look,aB,aP,aJ,Vs.hset,aK],by simp only;omega⟩)
   .have e2:decide (cf (l.getD m 0) (l.getD h 0)<0)=false:=AX hl2;rw[aBH _ hlt2 (by rw[←hh];show(!decide (cf (l.getD m 0) (l.getD h 0)<0))=true;rw[e2];rfl),←hh] at hr
    repeat' first|simp -dsimp only[go_sem,wij,whf,wh1,g0,g1,e2,hll,BP,Cb,aG hcaps _ 6,aG hcaps _ 7,aX,bG,aW]|apply Br.mk<;>intro h<;>try simp -dsimp only[h]|refine aA.c (by first|exact hcc) ?_|refine aC ?_|fail
    all_goals first|omega|(exact⟨⟨(h+1,j),⟨by dsimp only;omega,by dsimp only;omega,by dsimp only;omega⟩,hr⟩,by simp[Vs.LeL,Vs.look,aB,aP,aJ,Vs.hset,aK],by simp only;omega⟩)
  .have hge:i=j:=by
    have:¬i<j:=by simpa using hlt
    omega
   subst hge;rw[tN _ (Dr _)] at hr;simp -dsimp only[go_sem,hll,aG hcaps _ 6,aG hcaps _ 7,aX,bG,aW];refine⟨?_,by simp⟩;refine aO.at dM (X:={zz:Nat×List Int // (i<=zz.1∧zz.1<=m)∧zz.2.length=l.length∧mvD (zz.1-i) zz.1 zz.2=mvD (m-i) m l}) (λzz=>[(17,.v (.int .i64 zz.1.1))]) (λzz=>[(.b 0,.arr 1 (E cI zz.1.2) false)]) (λzz=>zz.1.1) ⟨(m,l),⟨by dsimp only;omega,by dsimp only;omega⟩,rfl,rfl⟩ ?_ ?_
   .exact le0
   .rintro⟨⟨k,d⟩,⟨hk0,hk1⟩,hm,hq⟩;dsimp only at hk0 hk1 hm hq;have hml:(E cI d).length=l.length:=by rw[aH];exact hm
    simp -dsimp only[go_sem,hml,aG hcaps _ 6,aG hcaps _ 7,aX,bG,aW];refine Br.mk (λhlt=>?_) λhlt=>?_
    .have hlt2:i<k:=by first|(simpa using hlt)|(simp at hlt;omega)
     obtain⟨k,rfl⟩:∃q,k=q+1:=⟨k-1,by omega⟩;have wk:=aJf (a:=k+1) (by omega) (by omega);rw[Nat.add_sub_cancel] at wk;have g1:=iH (m:=d) (j:=k) (by omega);have g2:=iH (m:=d) (j:=k+1) (by omega);have hsw:=aH8 d (k+1) k;obtain⟨y,g3⟩:=aAE (m:=d) (k+1) (j:=k) (by omega) (.v (.int .i64 (d.getD k 0)));have hsl:(swp d (k+1) k).length=l.length:=by rw[d9];exact hm
     rw[show k+1-i=(k-i)+1 by omega,aJS,Nat.add_sub_cancel] at hq
     repeat' first|simp -dsimp only[go_sem,wk,g1,g2,g3,hsw,hml,aG hcaps _ 6,aG hcaps _ 7,aX,bG,aW]|apply Br.mk<;>intro h<;>try simp -dsimp only[h]|refine aC ?_|fail
     all_goals first|omega|(exact⟨⟨(k,swp d (k+1) k),⟨by dsimp only;omega,by dsimp only;omega⟩,hsl,hq⟩,by simp[Vs.LeL,Vs.look,aB,aP,aJ,Vs.hset,aK],by simp only;omega⟩)
    .have hge:k=i:=by
      have:¬i<k:=by first|(simpa using hlt)|(simp at hlt;omega)
      omega
     subst hge;rw[C9] at hq;have hm0:mvD 0 k d=d:=by unfold mvD;rfl
     rw[hm0] at hq;simp -dsimp only[go_sem,hml,aG hcaps _ 6,aG hcaps _ 7,aX,bG,aW];rw[←hr,←hq]
     first|exact⟨⟨⟨_,_,rfl,rfl⟩,λh=>h rfl⟩,λh=>h rfl⟩|exact⟨⟨_,_,rfl,rfl⟩,λh=>h rfl⟩
end
section
variable [Vs.Envs]
attribute [local irreducible] Vs.Fn swp swR rot wH w9 mvU mvD smg qE
theorem aHE:∀(n k:Nat) (l:List Int),n<=k->k<l.length->∀x,x∈mvD n k l->x∈l
 |0,_,_,_,_,x,h=>by unfold mvD at h;exact h
 | n+1,k,l,hk,hl,x,h=>by
  unfold mvD at h;exact aAV (by omega) (by omega) x (aHE n (k-1) _ (by omega) (by rw[d9];omega) x h)
theorem zA {lt:Int->Int->Bool}:∀(f a m b:Nat) (l:List Int),a<m->m<b->b<=l.length->∀x,x∈smg lt f a m b l->x∈l
 |0,_,_,_,_,_,_,_,x,h=>by unfold smg at h;exact h
 | f+1,a,m,b,l,h1,h2,h3,x,h=>by
  unfold smg at h;split at h
  .have:=aDB (λh=>lt (l.getD h 0) (l.getD a 0)) _ m b (AL _) (by omega);exact aHD _ _ _ (by omega) x h
  .split at h
   .have:=aDB (λh=>!lt (l.getD m 0) (l.getD h 0)) _ a m (AL _) (by omega);exact aHE _ _ _ (by omega) (by omega) x h
   .dsimp only at h;generalize hs:bs (λc=>!lt (l.getD ((a+b)/2+m-1-c) 0) (l.getD c 0)) (if(a+b)/2<m then(a+b)/2+m-b else a) (if(a+b)/2<m then(a+b)/2 else m)=s at h;have hsb:=aDB (λc=>!lt (l.getD ((a+b)/2+m-1-c) 0) (l.getD c 0)) _ (if(a+b)/2<m then(a+b)/2+m-b else a) (if(a+b)/2<m then(a+b)/2 else m) (AL _) (by split<;>omega);rw[hs] at hsb
    have k1:a<=s∧s<=m∧s<=(a+b)/2∧(a+b)/2+m-s<=b:=by
     split at hsb<;>omega
    have r1:∀x,x∈(if s<m∧m<(a+b)/2+m-s then rot m ((a+b)/2+m-s-s) (m-s) ((a+b)/2+m-s-m) l else l)->x∈l:=by
     intro x hx;split at hx
     .exact aAW m _ _ _ l (by omega) (by omega) x hx
     .exact hx
    have len1:(if s<m∧m<(a+b)/2+m-s then rot m ((a+b)/2+m-s-s) (m-s) ((a+b)/2+m-s-m) l else l).length=l.length:=by
     split
     .rw[oQ]
     .rfl
    generalize(if s<m∧m<(a+b)/2+m-s then rot m ((a+b)/2+m-s-s) (m-s) ((a+b)/2+m-s-m) l else l)=l1 at h r1 len1
    have r2:∀x,x∈(if a<s∧s<(a+b)/2 then smg lt f a s ((a+b)/2) l1 else l1)->x∈l1:=by
     intro x hx;split at hx
     .rename_i hc;exact zA f a s _ l1 hc.1 hc.2 (by omega) x hx
     .exact hx
    have len2:(if a<s∧s<(a+b)/2 then smg lt f a s ((a+b)/2) l1 else l1).length=l1.length:=by
     split
     .rw[oG]
     .rfl
    generalize(if a<s∧s<(a+b)/2 then smg lt f a s ((a+b)/2) l1 else l1)=l2 at h r2 len2;split at h
    .rename_i hc;exact r1 x (r2 x (zA f _ _ b l2 hc.1 hc.2 (by omega) x h))
    .exact r1 x (r2 x h)
attribute [local go_sem] Ac Aa Ab A7 AO AP Ak AA Af Ad in
theorem symG1 (g:FuncId) (caps:List AV) (hcaps:jD caps=true) (cf:Int->Int->Int) (D:Int->Prop) (hc:aBi Tryz.prog g caps cf D) (l:List Int) (hD:∀x,x∈l->D x) (a m b f:Nat) (hl:l.length<=1048576) (ham:a+1<m) (hmb:m+1<b) (hb:b<=l.length) (hf:b-a<=f+1)
  (mid:Nat) (hmid:mid=(a+b)/2) (hcd:mid<m)
  (IH:∀(l':List Int),l'.length=l.length->(∀x,x∈l'->D x)->∀a' m' b':Nat,a'<m'->m'<b'->b'<=l.length->b'-a'<=f->
    Vs.Fn Tryz.prog F.aY [.arr 1 (E cI l') false] [.loc (.b 0) 0 l.length,.v (.int .i64 (a':Nat)),.v (.int .i64 (m':Nat)),.v (.int .i64 (b':Nat)),.fn g caps] (.tup []) [some (.arr 1 (E cI (smg (ltf cf) f a' m' b' l')) false)]) :
  Vs.Fn Tryz.prog F.aY [.arr 1 (E cI l) false] [.loc (.b 0) 0 l.length,.v (.int .i64 (a:Nat)),.v (.int .i64 (m:Nat)),.v (.int .i64 (b:Nat)),.fn g caps] (.tup [])
   [some (.arr 1 (E cI (smg (ltf cf) (f+1) a m b l)) false)]:=by
 have w1:=xC (a:=m) (b:=a) (by omega) (by omega);have w2:=xC (a:=b) (b:=m) (by omega) (by omega);have w3:=addN (a:=a) (b:=b) (by omega);have w4:=half (a:=a) (b:=b) (by omega);rw[←hmid] at w4;have w5:=addN (a:=mid) (b:=m) (by omega);have w6:=aJf (a:=mid+m) (by omega) (by omega);have w7:mid+m≥b->IntKind.i64.wrap (((mid+m:Nat):Int)-(b:Int))=((mid+m-b:Nat):Int):=λh=>xC h (by omega);have hll:(E cI l).length=l.length:=aH ..
 have e28:(((m-a:Nat):Int)==1)=false:=Ap.2 (by omega);have e29:(((b-m:Nat):Int)==1)=false:=Ap.2 (by omega);have e30:decide ((m:Int)>(mid:Int))=true:=AR (by omega);have w7a:=w7 (by omega);obtain⟨s,hs⟩:∃s,s=bs (λc=>!ltf cf (l.getD (mid+m-1-c) 0) (l.getD c 0)) (mid+m-b) (mid):=⟨_,rfl⟩;have hsb:=aDB (λc=>!ltf cf (l.getD (mid+m-1-c) 0) (l.getD c 0)) _ (mid+m-b) (mid) (AL _) (by omega);rw[←hs] at hsb;have hlh:a<=s∧s<=m∧s<=mid∧mid+m-s<=b∧mid<b:=by omega
 obtain⟨T,hT⟩:∃T,T=smg (ltf cf) (f+1) a m b l:=⟨_,rfl⟩
 have hT2:T=if mid<mid+m-s∧mid+m-s<b then smg (ltf cf) f mid (mid+m-s) b (if a<s∧s<mid then smg (ltf cf) f a s mid (if s<m∧m<mid+m-s then rot m (mid+m-s-s) (m-s) (mid+m-s-m) l else l) else(if s<m∧m<mid+m-s then rot m (mid+m-s-s) (m-s) (mid+m-s-m) l else l)) else(if a<s∧s<mid then smg (ltf cf) f a s mid (if s<m∧m<mid+m-s then rot m (mid+m-s-s) (m-s) (mid+m-s-m) l else l) else(if s<m∧m<mid+m-s then rot m (mid+m-s-s) (m-s) (mid+m-s-m) l else l)):=by
  rw[hT,smg,AJ (by omega),AJ (by omega)];dsimp only;rw[←hmid];simp only[AY hcd];rw[←hs]
 rw[←hT];have hDr:∀x,x∈rot m (mid+m-s-s) (m-s) (mid+m-s-m) l->D x:=λx hx=>hD x (aAW m _ _ _ l (by omega) (by omega) x hx);have hrl:(rot m (mid+m-s-s) (m-s) (mid+m-s-m) l).length=l.length:=oQ ..
 refine fn1 Cd.symMerge_int64__k [.b 0] [.arr 1 (E cI T) false] λX=>?_;unfold Cd.aY;simp -dsimp only[go_sem,w1,w2,w3,w4,w5,w6,e28,e29,e30,hll,w7a];refine⟨by omega,?_⟩;refine aO.at dM (X:={zz:Nat×Nat // ((mid+m-b)<=zz.1∧zz.1<=zz.2∧zz.2<=(mid))∧bs (λc=>!ltf cf (l.getD (mid+m-1-c) 0) (l.getD c 0)) zz.1 zz.2=bs (λc=>!ltf cf (l.getD (mid+m-1-c) 0) (l.getD c 0)) ((mid+m-b)) ((mid))}) (λzz=>[(20,.v (.int .i64 zz.1.1)),(21,.v (.int .i64 zz.1.2))]) (λ_=>[]) (λzz=>zz.1.2-zz.1.1) ⟨((mid+m-b),(mid)),⟨by dsimp only;omega,by dsimp only;omega,by dsimp only;omega⟩,rfl⟩ ?_ ?_
 .exact le0
 .rintro⟨⟨i,j⟩,⟨hi0,hij,hj0⟩,hr⟩;dsimp only at hi0 hij hj0 hr;have wij:=addN (a:=i) (b:=j) (by omega);have whf:=half (a:=i) (b:=j) (by omega);simp -dsimp only[go_sem,wij,hll];refine Br.mk (λhlt=>?_) λhlt=>?_
  .have hlt2:i<j:=by simpa using hlt
   obtain⟨h,hh⟩:∃h,h=(i+j)/2:=⟨_,rfl⟩;rw[←hh] at whf;have wh1:=add1 (a:=h) (by omega);have wph:=xC (a:=mid+m-1) (b:=h) (by omega) (by omega);have hcc:=hc _ _ (lY hD (i:=mid+m-1-h) (by omega)) (lY hD (i:=h) (by omega));have g1:=iH (m:=l) (j:=h) (by omega);have g2:=iH (m:=l) (j:=mid+m-1-h) (by omega);by_cases hl2:cf (l.getD (mid+m-1-h) 0) (l.getD h 0)<0
   .have e2:decide (cf (l.getD (mid+m-1-h) 0) (l.getD h 0)<0)=true:=AR hl2;rw[aEq _ hlt2 (by rw[←hh];show(!decide (cf (l.getD (mid+m-1-h) 0) (l.getD h 0)<0))=false;rw[e2];rfl),←hh] at hr
    repeat' first|simp -dsimp only[go_sem,wij,whf,wh1,wph,g1,g2,e2,hll,BP,Cb,aG hcaps _ 6,aG hcaps _ 7,aX,bG,aW]|apply Br.mk<;>intro h<;>try simp -dsimp only[h]|refine aA.c (by first|exact hcc) ?_|refine aC ?_|fail
    all_goals first|omega|(exact⟨⟨(i,h),⟨by dsimp only;omega,by dsimp only;omega,by dsimp only;omega⟩,hr⟩,by simp[Vs.LeL,Vs.look,aB,aP,aJ,Vs.hset,aK],by simp only;omega⟩)
   .have e2:decide (cf (l.getD (mid+m-1-h) 0) (l.getD h 0)<0)=false:=AX hl2;rw[aBH _ hlt2 (by rw[←hh];show(!decide (cf (l.getD (mid+m-1-h) 0) (l.getD h 0)<0))=true;rw[e2];rfl),←hh] at hr
    repeat' first|simp -dsimp only[go_sem,wij,whf,wh1,wph,g1,g2,e2,hll,BP,Cb,aG hcaps _ 6,aG hcaps _ 7,aX,bG,aW]|apply Br.mk<;>intro h<;>try simp -dsimp only[h]|refine aA.c (by first|exact hcc) ?_|refine aC ?_|fail
    all_goals first|omega|(exact⟨⟨(h+1,j),⟨by dsimp only;omega,by dsimp only;omega,by dsimp only;omega⟩,hr⟩,by simp[Vs.LeL,Vs.look,aB,aP,aJ,Vs.hset,aK],by simp only;omega⟩)
  .have hge:i=j:=by
    have:¬i<j:=by simpa using hlt
    omega
   subst hge;rw[tN _ (Dr _)] at hr;rw[←hs] at hr;subst hr;have we:=xC (a:=mid+m) (b:=i) (by omega) (by omega);have d1:decide ((i:Int)<(m:Int))=decide (i<m):=by simp
   have d2:decide ((m:Int)<((mid+m-i:Nat):Int))=decide (i<mid):=by
    have:(m:Int)<((mid+m-i:Nat):Int)↔i<mid:=by omega
    simp only[this]
   have d3:decide ((a:Int)<(i:Int))=decide (a<i):=by simp
   have d4:decide ((i:Int)<(mid:Int))=decide (i<mid):=by simp
   have d5:decide ((mid:Int)<((mid+m-i:Nat):Int))=decide (i<m):=by
    have:(mid:Int)<((mid+m-i:Nat):Int)↔i<m:=by omega
    simp only[this]
   have d6:decide (((mid+m-i:Nat):Int)<(b:Int))=decide (mid+m-i<b):=by simp
   have q2:(m<mid+m-i)=(i<mid):=by apply propext;omega
   have q5:(mid<mid+m-i)=(i<m):=by apply propext;omega
   simp only[q2,q5] at hT2;have CR:=λ(h1:i<m) (h2:i<mid)=>rotate g caps hcaps l i m (mid+m-i) hl h1 (by omega) (by omega);by_cases A:a<i<;>by_cases B:i<mid<;>by_cases C:i<m<;>by_cases E':mid+m-i<b
   all_goals
    simp only[A,B,C,E',and_self,and_true,Ci,and_false,false_and,Bt,Bg,decide_true,decide_false] at d1 d2 d3 d4 d5 d6 hT2;simp -dsimp only[go_sem,we,d1,d2,d3,d4,d5,d6,hll,aG hcaps _ 6,aG hcaps _ 7,aX,bG,aW];refine⟨?_,λh=>h rfl⟩
    repeat' first|simp -dsimp only[go_sem,we,d1,d2,d3,d4,d5,d6,hll,aG hcaps _ 6,aG hcaps _ 7,aX,bG,aW]|refine And.intro rfl (aA.bor (CR C B) rfl ?_)|refine And.intro rfl (aA.bor (IH _ ?_ ?_ _ _ _ ?_ ?_ ?_ ?_) rfl ?_)|simp -dsimp only[go_sem,we,d1,d2,d3,d4,d5,d6,hll,aG hcaps _ 6,aG hcaps _ 7,aX,bG,aW]|fail
   all_goals first
    |omega
    |exact hD
    |exact hDr
    |exact hrl
    |rfl
    |(rw[oG];first|exact hrl|rfl)
    |(intro x hx;first|exact hD x (zA _ _ _ _ l (by omega) (by omega) (by omega) x hx)|exact hDr x (zA _ _ _ _ _ (by omega) (by omega) (by rw[hrl];omega) x hx))
    |(rw[hT2];exact⟨_,_,rfl,rfl⟩)

attribute [local go_sem] Ac Aa Ab A7 AO AP Ak AA Af Ad in
theorem symG2 (g:FuncId) (caps:List AV) (hcaps:jD caps=true) (cf:Int->Int->Int) (D:Int->Prop) (hc:aBi Tryz.prog g caps cf D) (l:List Int) (hD:∀x,x∈l->D x) (a m b f:Nat) (hl:l.length<=1048576) (ham:a+1<m) (hmb:m+1<b) (hb:b<=l.length) (hf:b-a<=f+1)
  (mid:Nat) (hmid:mid=(a+b)/2) (hcd:¬mid<m)
  (IH:∀(l':List Int),l'.length=l.length->(∀x,x∈l'->D x)->∀a' m' b':Nat,a'<m'->m'<b'->b'<=l.length->b'-a'<=f->
    Vs.Fn Tryz.prog F.aY [.arr 1 (E cI l') false] [.loc (.b 0) 0 l.length,.v (.int .i64 (a':Nat)),.v (.int .i64 (m':Nat)),.v (.int .i64 (b':Nat)),.fn g caps] (.tup []) [some (.arr 1 (E cI (smg (ltf cf) f a' m' b' l')) false)]) :
  Vs.Fn Tryz.prog F.aY [.arr 1 (E cI l) false] [.loc (.b 0) 0 l.length,.v (.int .i64 (a:Nat)),.v (.int .i64 (m:Nat)),.v (.int .i64 (b:Nat)),.fn g caps] (.tup [])
   [some (.arr 1 (E cI (smg (ltf cf) (f+1) a m b l)) false)]:=by
 have w1:=xC (a:=m) (b:=a) (by omega) (by omega);have w2:=xC (a:=b) (b:=m) (by omega) (by omega);have w3:=addN (a:=a) (b:=b) (by omega);have w4:=half (a:=a) (b:=b) (by omega);rw[←hmid] at w4;have w5:=addN (a:=mid) (b:=m) (by omega);have w6:=aJf (a:=mid+m) (by omega) (by omega);have w7:mid+m≥b->IntKind.i64.wrap (((mid+m:Nat):Int)-(b:Int))=((mid+m-b:Nat):Int):=λh=>xC h (by omega);have hll:(E cI l).length=l.length:=aH ..
 have e28:(((m-a:Nat):Int)==1)=false:=Ap.2 (by omega);have e29:(((b-m:Nat):Int)==1)=false:=Ap.2 (by omega);have e30:decide ((m:Int)>(mid:Int))=false:=AX (by omega);obtain⟨s,hs⟩:∃s,s=bs (λc=>!ltf cf (l.getD (mid+m-1-c) 0) (l.getD c 0)) (a) (m):=⟨_,rfl⟩;have hsb:=aDB (λc=>!ltf cf (l.getD (mid+m-1-c) 0) (l.getD c 0)) _ (a) (m) (AL _) (by omega);rw[←hs] at hsb;have hlh:a<=s∧s<=m∧s<=mid∧mid+m-s<=b∧mid<b:=by omega
 obtain⟨T,hT⟩:∃T,T=smg (ltf cf) (f+1) a m b l:=⟨_,rfl⟩
 have hT2:T=if mid<mid+m-s∧mid+m-s<b then smg (ltf cf) f mid (mid+m-s) b (if a<s∧s<mid then smg (ltf cf) f a s mid (if s<m∧m<mid+m-s then rot m (mid+m-s-s) (m-s) (mid+m-s-m) l else l) else(if s<m∧m<mid+m-s then rot m (mid+m-s-s) (m-s) (mid+m-s-m) l else l)) else(if a<s∧s<mid then smg (ltf cf) f a s mid (if s<m∧m<mid+m-s then rot m (mid+m-s-s) (m-s) (mid+m-s-m) l else l) else(if s<m∧m<mid+m-s then rot m (mid+m-s-s) (m-s) (mid+m-s-m) l else l)):=by
  rw[hT,smg,AJ (by omega),AJ (by omega)];dsimp only;rw[←hmid];simp only[AJ hcd];rw[←hs]
 rw[←hT];have hDr:∀x,x∈rot m (mid+m-s-s) (m-s) (mid+m-s-m) l->D x:=λx hx=>hD x (aAW m _ _ _ l (by omega) (by omega) x hx);have hrl:(rot m (mid+m-s-s) (m-s) (mid+m-s-m) l).length=l.length:=oQ ..
 refine fn1 Cd.symMerge_int64__k [.b 0] [.arr 1 (E cI T) false] λX=>?_;unfold Cd.aY;simp -dsimp only[go_sem,w1,w2,w3,w4,w5,w6,e28,e29,e30,hll];refine⟨by omega,?_⟩;refine aO.at dM (X:={zz:Nat×Nat // ((a)<=zz.1∧zz.1<=zz.2∧zz.2<=(m))∧bs (λc=>!ltf cf (l.getD (mid+m-1-c) 0) (l.getD c 0)) zz.1 zz.2=bs (λc=>!ltf cf (l.getD (mid+m-1-c) 0) (l.getD c 0)) ((a)) ((m))}) (λzz=>[(20,.v (.int .i64 zz.1.1)),(21,.v (.int .i64 zz.1.2))]) (λ_=>[]) (λzz=>zz.1.2-zz.1.1) ⟨((a),(m)),⟨by dsimp only;omega,by dsimp only;omega,by dsimp only;omega⟩,rfl⟩ ?_ ?_
 .exact le0
 .rintro⟨⟨i,j⟩,⟨hi0,hij,hj0⟩,hr⟩;dsimp only at hi0 hij hj0 hr;have wij:=addN (a:=i) (b:=j) (by omega);have whf:=half (a:=i) (b:=j) (by omega);simp -dsimp only[go_sem,wij,hll];refine Br.mk (λhlt=>?_) λhlt=>?_
  .have hlt2:i<j:=by simpa using hlt
   obtain⟨h,hh⟩:∃h,h=(i+j)/2:=⟨_,rfl⟩;rw[←hh] at whf;have wh1:=add1 (a:=h) (by omega);have wph:=xC (a:=mid+m-1) (b:=h) (by omega) (by omega);have hcc:=hc _ _ (lY hD (i:=mid+m-1-h) (by omega)) (lY hD (i:=h) (by omega));have g1:=iH (m:=l) (j:=h) (by omega);have g2:=iH (m:=l) (j:=mid+m-1-h) (by omega);by_cases hl2:cf (l.getD (mid+m-1-h) 0) (l.getD h 0)<0
   .have e2:decide (cf (l.getD (mid+m-1-h) 0) (l.getD h 0)<0)=true:=AR hl2;rw[aEq _ hlt2 (by rw[←hh];show(!decide (cf (l.getD (mid+m-1-h) 0) (l.getD h 0)<0))=false;rw[e2];rfl),←hh] at hr
    repeat' first|simp -dsimp only[go_sem,wij,whf,wh1,wph,g1,g2,e2,hll,BP,Cb,aG hcaps _ 6,aG hcaps _ 7,aX,bG,aW]|apply Br.mk<;>intro h<;>try simp -dsimp only[h]|refine aA.c (by first|exact hcc) ?_|refine aC ?_|fail
    all_goals first|omega|(exact⟨⟨(i,h),⟨by dsimp only;omega,by dsimp only;omega,by dsimp only;omega⟩,hr⟩,by simp[Vs.LeL,Vs.look,aB,aP,aJ,Vs.hset,aK],by simp only;omega⟩)
   .have e2:decide (cf (l.getD (mid+m-1-h) 0) (l.getD h 0)<0)=false:=AX hl2;rw[aBH _ hlt2 (by rw[←hh];show(!decide (cf (l.getD (mid+m-1-h) 0) (l.getD h 0)<0))=true;rw[e2];rfl),←hh] at hr
    repeat' first|simp -dsimp only[go_sem,wij,whf,wh1,wph,g1,g2,e2,hll,BP,Cb,aG hcaps _ 6,aG hcaps _ 7,aX,bG,aW]|apply Br.mk<;>intro h<;>try simp -dsimp only[h]|refine aA.c (by first|exact hcc) ?_|refine aC ?_|fail
    all_goals first|omega|(exact⟨⟨(h+1,j),⟨by dsimp only;omega,by dsimp only;omega,by dsimp only;omega⟩,hr⟩,by simp[Vs.LeL,Vs.look,aB,aP,aJ,Vs.hset,aK],by simp only;omega⟩)
  .have hge:i=j:=by
    have:¬i<j:=by simpa using hlt
    omega
   subst hge;rw[tN _ (Dr _)] at hr;rw[←hs] at hr;subst hr;have we:=xC (a:=mid+m) (b:=i) (by omega) (by omega);have d1:decide ((i:Int)<(m:Int))=decide (i<m):=by simp
   have d2:decide ((m:Int)<((mid+m-i:Nat):Int))=decide (i<mid):=by
    have:(m:Int)<((mid+m-i:Nat):Int)↔i<mid:=by omega
    simp only[this]
   have d3:decide ((a:Int)<(i:Int))=decide (a<i):=by simp
   have d4:decide ((i:Int)<(mid:Int))=decide (i<mid):=by simp
   have d5:decide ((mid:Int)<((mid+m-i:Nat):Int))=decide (i<m):=by
    have:(mid:Int)<((mid+m-i:Nat):Int)↔i<m:=by omega
    simp only[this]
   have d6:decide (((mid+m-i:Nat):Int)<(b:Int))=decide (mid+m-i<b):=by simp
   have q2:(m<mid+m-i)=(i<mid):=by apply propext;omega
   have q5:(mid<mid+m-i)=(i<m):=by apply propext;omega
   simp only[q2,q5] at hT2;have CR:=λ(h1:i<m) (h2:i<mid)=>rotate g caps hcaps l i m (mid+m-i) hl h1 (by omega) (by omega);by_cases A:a<i<;>by_cases B:i<mid<;>by_cases C:i<m<;>by_cases E':mid+m-i<b
   all_goals
    simp only[A,B,C,E',and_self,and_true,Ci,and_false,false_and,Bt,Bg,decide_true,decide_false] at d1 d2 d3 d4 d5 d6 hT2;simp -dsimp only[go_sem,we,d1,d2,d3,d4,d5,d6,hll,aG hcaps _ 6,aG hcaps _ 7,aX,bG,aW];refine⟨?_,λh=>h rfl⟩
    repeat' first|simp -dsimp only[go_sem,we,d1,d2,d3,d4,d5,d6,hll,aG hcaps _ 6,aG hcaps _ 7,aX,bG,aW]|refine And.intro rfl (aA.bor (CR C B) rfl ?_)|refine And.intro rfl (aA.bor (IH _ ?_ ?_ _ _ _ ?_ ?_ ?_ ?_) rfl ?_)|simp -dsimp only[go_sem,we,d1,d2,d3,d4,d5,d6,hll,aG hcaps _ 6,aG hcaps _ 7,aX,bG,aW]|fail
   all_goals first
    |omega
    |exact hD
    |exact hDr
    |exact hrl
    |rfl
    |(rw[oG];first|exact hrl|rfl)
    |(intro x hx;first|exact hD x (zA _ _ _ _ l (by omega) (by omega) (by omega) x hx)|exact hDr x (zA _ _ _ _ _ (by omega) (by omega) (by rw[hrl];omega) x hx))
    |(rw[hT2];exact⟨_,_,rfl,rfl⟩)

theorem sym (g:FuncId) (caps:List AV) (hcaps:jD caps=true) (cf:Int->Int->Int) (D:Int->Prop) (hc:aBi Tryz.prog g caps cf D) (n:Nat) (hn:n<=1048576):∀(f:Nat) (l:List Int),l.length=n->(∀x,x∈l->D x)->∀a m b:Nat,a<m->m<b->b<=n->b-a<=f->
  Vs.Fn Tryz.prog F.aY [.arr 1 (E cI l) false] [.loc (.b 0) 0 n,.v (.int .i64 (a:Nat)),.v (.int .i64 (m:Nat)),.v (.int .i64 (b:Nat)),.fn g caps] (.tup []) [some (.arr 1 (E cI (smg (ltf cf) f a m b l)) false)]
 |0,l,hl,hD,a,m,b,h1,h2,h3,h4=>absurd h4 (by omega)
 | f+1,l,hl,hD,a,m,b,h1,h2,h3,h4=>by
  subst hl;by_cases k1:m=a+1
  .subst k1;have hs:smg (ltf cf) (f+1) a (a+1) b l=mvU (bs (λh=>ltf cf (l.getD h 0) (l.getD a 0)) (a+1) b-1-a) a l:=by rw[smg,AY (by omega)]
   rw[hs];exact sym1 g caps hcaps cf D hc l hD a b hn h2 h3
  by_cases k2:b=m+1
  .subst k2;have hs:smg (ltf cf) (f+1) a m (m+1) l=mvD (m-bs (λh=>!ltf cf (l.getD m 0) (l.getD h 0)) a m) m l:=by rw[smg,AJ (by omega),AY (by omega)]
   rw[hs];exact sym2 g caps hcaps cf D hc l hD a m hn (by omega) h3
  by_cases k3:(a+b)/2<m
  .exact symG1 g caps hcaps cf D hc l hD a m b f hn (by omega) (by omega) h3 h4 _ rfl k3 λl' e1 e2 a' m' b' e3 e4 e5 e6=>sym g caps hcaps cf D hc l.length hn f l' e1 e2 a' m' b' e3 e4 e5 e6
  .exact symG2 g caps hcaps cf D hc l hD a m b f hn (by omega) (by omega) h3 h4 _ rfl k3 λl' e1 e2 a' m' b' e3 e4 e5 e6=>sym g caps hcaps cf D hc l.length hn f l' e1 e2 a' m' b' e3 e4 e5 e6
end
section
variable [Vs.Envs]
attribute [local irreducible] Vs.Fn swp swR rot wH w9 mvU mvD smg qE
theorem aFv {lt:Int->Int->Bool}{a:Nat}:∀(j:Nat) (l:List Int),j<l.length->∀x,x∈w9 lt a j l->x∈l
 |0,l,_,x,h=>by unfold w9 at h;exact h
 | j+1,l,hj,x,h=>by
  rw[w9] at h;split at h
  .exact aAV (by omega) (by omega) x (aFv j _ (by rw[d9];omega) x h)
  .exact h
theorem aFw {lt:Int->Int->Bool}{a:Nat}:∀(n i:Nat) (l:List Int),i+n<=l.length->∀x,x∈wH lt a n i l->x∈l
 |0,_,l,_,x,h=>by unfold wH at h;exact h
 | n+1,i,l,hi,x,h=>by
  rw[wH] at h;exact aFv i l (by omega) x (aFw n (i+1) _ (by rw[xV];omega) x h)
theorem aC7 {lt:Int->Int->Bool}{a b:Nat}{l:List Int} (hb:b<=l.length):∀x,x∈qE lt a b l->x∈l:=by
 intro x h;unfold qE at h;by_cases hab:a+1<=b
 .exact aFw _ _ l (by omega) x h
 .rw[show b-(a+1)=0 by omega] at h;unfold wH at h;exact h
theorem aII {lt:Int->Int->Bool}{a b:Nat}{l:List Int} (h:b<=a+1):qE lt a b l=l:=by
 unfold qE;rw[show b-(a+1)=0 by omega];unfold wH;rfl
theorem W20:IntKind.i64.wrap (0+20)=20:=by decide
theorem W40:IntKind.i64.wrap (2*20)=40:=by decide
theorem W60:IntKind.i64.wrap (40+20)=60:=by decide
theorem W80:IntKind.i64.wrap (40+IntKind.i64.wrap (2*20))=80:=by decide
attribute [local go_sem] Ac Aa Ab A7 AO AP Ak AA Af Ad A8 in
theorem stable (g:FuncId) (caps:List AV) (hcaps:jD caps=true) (cf:Int->Int->Int) (D:Int->Prop) (hc:aBi Tryz.prog g caps cf D) (l:List Int) (hD:∀x,x∈l->D x) (hl:l.length<=40) :
  Vs.Fn Tryz.prog F.jK [.arr 1 (E cI l) false] [.loc (.b 0) 0 l.length,.v (.int .i64 (l.length:Nat)),.fn g caps] (.tup []) [some (.arr 1 (E cI (stb (ltf cf) l)) false)]:=by
 have hI:∀(m:List Int),m.length=l.length->(∀x,x∈m->D x)->∀a b:Nat,a<=b->b<=l.length->
   Vs.Fn Tryz.prog F.gI [.arr 1 (E cI m) false] [.loc (.b 0) 0 l.length,.v (.int .i64 (a:Nat)),.v (.int .i64 (b:Nat)),.fn g caps] (.tup []) [some (.arr 1 (E cI (qE (ltf cf) a b m)) false)]:=by
  intro m hm hDm a b h1 h2;have:=insertion g caps hcaps cf D hc m hDm a b (by omega) h1 (by omega)
  rwa [hm] at this
 have hS:=λ(m:List Int) (hm:m.length=l.length) (hDm:∀x,x∈m->D x) (b:Nat) (h1:20<b) (h2:b<=l.length)=>sym g caps hcaps cf D hc l.length (by omega) 40 m hm hDm 0 20 b (by omega) h1 h2 (by omega);obtain⟨r1,hr1⟩:∃r,r=qE (ltf cf) 0 20 l:=⟨_,rfl⟩;obtain⟨r2,hr2⟩:∃r,r=qE (ltf cf) 20 l.length r1:=⟨_,rfl⟩;obtain⟨r0,hr0⟩:∃r,r=qE (ltf cf) 0 l.length l:=⟨_,rfl⟩;have n1:r1.length=l.length:=by rw[hr1,iF]
 have n2:r2.length=l.length:=by rw[hr2,iF,n1]
 have n0:r0.length=l.length:=by rw[hr0,iF]
 have D1:20<=l.length->∀x,x∈r1->D x:=λh x hx=>hD x (aC7 (by omega) x (by rw[←hr1];exact hx));have D2:20<=l.length->∀x,x∈r2->D x:=λh x hx=>D1 h x (aC7 (a:=20) (b:=l.length) (by omega) x (by rw[←hr2];exact hx));obtain⟨T,hT⟩:∃T,T=stb (ltf cf) l:=⟨_,rfl⟩
 have hT2:T=if l.length<20 then r0 else if 20<l.length then smg (ltf cf) 40 0 20 l.length r2 else r2:=by
  rw[hT,hr0,hr2,hr1];rfl
 rw[←hT];refine fn1 Cd.stable_int64__k [.b 0] [.arr 1 (E cI T) false] λX=>?_;unfold Cd.jK;simp -dsimp only[go_sem];refine aO.at dM (X:={zz:Nat×List Int // (zz.1=0∧zz.2=l)∨(zz.1=1∧zz.2=r1∧20<=l.length)∨(zz.1=2∧zz.2=r2∧l.length=40)}) (λzz=>[(7,.v (.int .i64 ((20*zz.1.1:Nat):Int))),(8,.v (.int .i64 ((20*zz.1.1+20:Nat):Int)))]) (λzz=>[(.b 0,.arr 1 (E cI zz.1.2) false)]) (λzz=>3-zz.1.1) ⟨(0,l),.inl ⟨rfl,rfl⟩⟩ ?_ ?_
 .exact le0
 .rintro⟨⟨k,m⟩,hk⟩;dsimp only at hk;have hm:m.length=l.length:=by rcases hk with⟨_,rfl⟩|⟨_,rfl,_⟩|⟨_,rfl,_⟩<;>first|rfl|assumption
  have hml:(E cI m).length=l.length:=by rw[aH];exact hm
  have hDm:∀x,x∈m->D x:=by
   rcases hk with⟨_,rfl⟩|⟨_,rfl,h⟩|⟨_,rfl,h⟩
   .exact hD
   .exact D1 h
   .exact D2 (by omega)
  simp -dsimp only[go_sem];refine Br.mk (λhlt=>?_) λhlt=>?_
  .have hlt2:20*k+20<=l.length:=by have:=Cu hlt;omega
   have hk1:k<=1:=by omega
   have w1:IntKind.i64.wrap (((20*k+20:Nat):Int)+20)=((20*(k+1)+20:Nat):Int):=by rw[aM (by omega) (by omega)];omega
   have CI:=hI m hm hDm (20*k) (20*k+20) (by omega) hlt2;simp -dsimp only[go_sem,hml,aG hcaps _ 6,aG hcaps _ 7,aX,bG,aW];refine⟨rfl,aA.bor CI rfl ?_⟩;simp -dsimp only[go_sem,hml,aG hcaps _ 6,aG hcaps _ 7,aX,bG,aW]
   have hnext:(k+1=0∧qE (ltf cf) (20*k) (20*k+20) m=l)∨(k+1=1∧qE (ltf cf) (20*k) (20*k+20) m=r1∧20<=l.length)∨(k+1=2∧qE (ltf cf) (20*k) (20*k+20) m=r2∧l.length=40):=by
    rcases hk with⟨rfl,rfl⟩|⟨rfl,rfl,h⟩|⟨rfl,rfl,h⟩
    .exact .inr (.inl ⟨rfl,hr1.symm,by omega⟩)
    .exact .inr (.inr ⟨rfl,by rw[hr2,show l.length=40 by omega],by omega⟩)
    .omega
   have he:((20*(k+1):Nat):Int)=((20*k+20:Nat):Int):=by omega
   refine⟨⟨(k+1,qE (ltf cf) (20*k) (20*k+20) m),hnext⟩,?_,by simp only;omega⟩;simp[Vs.LeL,Vs.look,aB,aP,aJ,Vs.hset,aK];rw[aM (by omega) (by omega)];omega
  .have hge:¬20*k+20<=l.length:=by have:=CB hlt;omega
   have hk3:20*k<=l.length:=by rcases hk with⟨rfl,rfl⟩|⟨rfl,rfl,h⟩|⟨rfl,rfl,h⟩<;>omega
   have CI:=hI m hm hDm (20*k) l.length hk3 (AL _);obtain⟨q,hq⟩:∃q,q=qE (ltf cf) (20*k) l.length m:=⟨_,rfl⟩;rw[←hq] at CI
   have hqv:(l.length<20∧q=r0)∨(20<=l.length∧q=r2):=by
    rcases hk with⟨rfl,rfl⟩|⟨rfl,rfl,h⟩|⟨rfl,rfl,h⟩
    .exact .inl ⟨by omega,by rw[hq,hr0]⟩
    .exact .inr ⟨h,by rw[hq,hr2]⟩
    .exact .inr ⟨by omega,by rw[hq,aII (by omega)]⟩
   have hqn:q.length=l.length:=by rw[hq,iF];exact hm
   have hqD:∀x,x∈q->D x:=λx hx=>hDm x (aC7 (a:=20*k) (b:=l.length) (by omega) x (by rw[←hq];exact hx));have hql:(E cI q).length=l.length:=by rw[aH];exact hqn
   simp -dsimp only[go_sem,hml,aG hcaps _ 6,aG hcaps _ 7,aX,bG,aW];refine⟨⟨rfl,aA.bor CI rfl ?_⟩,λh=>h rfl⟩;simp -dsimp only[go_sem,hml,aG hcaps _ 6,aG hcaps _ 7,aX,bG,aW];refine aO.at dM (X:={zz:Bool×List Int // (zz.1=false∧zz.2=q)∨(zz.1=true∧zz.2=T)}) (λzz=>[(6,.v (.int .i64 (if zz.1.1 then 40 else 20)))]) (λzz=>[(.b 0,.arr 1 (E cI zz.1.2) false)]) (λzz=>if zz.1.1 then 0 else 1) ⟨(false,q),.inl ⟨rfl,rfl⟩⟩ ?_ ?_
   .exact le0
   .rintro⟨⟨fl,d⟩,hf⟩;dsimp only at hf;rcases hf with⟨rfl,rfl⟩|⟨rfl,rfl⟩
    rotate_left
    .have e1:decide ((40:Int)<(l.length:Int))=false:=AX (by omega);simp -dsimp only[go_sem,e1,hml,aG hcaps _ 6,aG hcaps _ 7,aX,bG,aW];exact⟨⟨_,_,rfl,rfl⟩,λh=>h rfl⟩
    by_cases h20:20<l.length
    rotate_left
    .have e1:decide ((20:Int)<(l.length:Int))=false:=AX (by omega)
     have hTd:T=d:=by
      rw[hT2];rcases hqv with⟨h1,h2⟩|⟨h1,h2⟩
      .rw[AY h1,h2]
      .rw[AJ (by omega),AJ h20,h2]
     rw[hTd];simp -dsimp only[go_sem,e1,hml,aG hcaps _ 6,aG hcaps _ 7,aX,bG,aW];exact⟨⟨_,_,rfl,rfl⟩,λh=>h rfl⟩
    have hd2:d=r2:=by rcases hqv with⟨h1,_⟩|⟨_,h2⟩<;>first|omega|exact h2
    have hTd:smg (ltf cf) 40 0 20 l.length d=T:=by rw[hT2,AJ (by omega),AY h20,hd2]
    have hTl:T.length=l.length:=by rw[←hTd,oG];exact hqn
    have e1:decide ((20:Int)<(l.length:Int))=true:=AR (by omega);have CS:=hS d hqn hqD l.length h20 (AL _);rw[hTd] at CS;have CS':Vs.Fn Tryz.prog F.aY [.arr 1 (E cI d) false] [.loc (.b 0) 0 l.length,.v (.int .i64 0),.v (.int .i64 20),.v (.int .i64 (l.length:Nat)),.fn g caps] (.tup []) [some (.arr 1 (E cI T) false)]:=CS;have hTn:(E cI T).length=l.length:=by rw[aH];exact hTl
    simp -dsimp only[go_sem,e1,hml,aG hcaps _ 6,aG hcaps _ 7,aX,bG,aW];refine aO.at dM (X:={zz:Bool×List Int // (zz.1=false∧zz.2=d)∨(zz.1=true∧zz.2=T∧l.length=40)}) (λzz=>[(7,.v (.int .i64 (if zz.1.1 then 40 else 0))),(8,.v (.int .i64 (if zz.1.1 then 80 else 40)))]) (λzz=>[(.b 0,.arr 1 (E cI zz.1.2) false)]) (λzz=>if zz.1.1 then 0 else 1) ⟨(false,d),.inl ⟨rfl,rfl⟩⟩ ?_ ?_
    .simp[Vs.LeL,Vs.look,aB,aP,aJ,Vs.hset,aK]<;>decide
    .rintro⟨⟨fl,d2⟩,hf⟩;dsimp only at hf;rcases hf with⟨rfl,rfl⟩|⟨rfl,rfl,h40⟩
     .by_cases h40:l.length=40
      .have e2:decide ((40:Int)<=(l.length:Int))=true:=AR (by omega)
       have CS2:Vs.Fn Tryz.prog F.aY [.arr 1 (E cI d2) false] [.loc (.b 0) 0 l.length,.v (.int .i64 0),.v (.int .i64 20),.v (.int .i64 40),.fn g caps] (.tup []) [some (.arr 1 (E cI T) false)]:=by
        have h:=CS';rw[show((l.length:Nat):Int)=40 by omega] at h;exact h
       simp -dsimp only[go_sem,e1,e2,hql,hTn,W20,W40,W60,W80,hml,aG hcaps _ 6,aG hcaps _ 7,aX,bG,aW];refine⟨rfl,aA.bor CS2 rfl ?_⟩;simp -dsimp only[go_sem,e1,e2,hql,hTn,W20,W40,W60,W80,hml,aG hcaps _ 6,aG hcaps _ 7,aX,bG,aW];exact⟨⟨(true,T),.inr ⟨rfl,rfl,h40⟩⟩,by simp[Vs.LeL,Vs.look,aB,aP,aJ,Vs.hset,aK]<;>decide,by simp⟩
      .have e2:decide ((40:Int)<=(l.length:Int))=false:=AX (by omega);simp -dsimp only[go_sem,e1,e2,hql,hTn,W20,W40,W60,W80,hml,aG hcaps _ 6,aG hcaps _ 7,aX,bG,aW];refine⟨⟨rfl,aA.bor CS' rfl ?_⟩,λh1 h2=>absurd rfl h1⟩;simp -dsimp only[go_sem,e1,e2,hql,hTn,W20,W40,W60,W80,hml,aG hcaps _ 6,aG hcaps _ 7,aX,bG,aW];exact⟨⟨(true,T),.inr ⟨rfl,rfl⟩⟩,by simp[Vs.LeL,Vs.look,aB,aP,aJ,Vs.hset,aK]<;>decide,by simp⟩
     .have e2:decide ((80:Int)<=(l.length:Int))=false:=AX (by omega);have e3:decide ((60:Int)<(l.length:Int))=false:=AX (by omega);simp -dsimp only[go_sem,e1,e2,e3,hql,hTn,W20,W40,W60,W80,hml,aG hcaps _ 6,aG hcaps _ 7,aX,bG,aW];exact⟨⟨⟨(true,d2),.inr ⟨rfl,rfl⟩⟩,by simp[Vs.LeL,Vs.look,aB,aP,aJ,Vs.hset,aK]<;>decide,by simp⟩,λh1 h2=>absurd rfl h1⟩
end
section
variable [Vs.Envs]
attribute [local irreducible] Vs.Fn chOK areCh chTo chAt l03
theorem aES {r a b:Int} (h:inB r a b=true):a<=r:=by
 simp only[inB,Au,Bb] at h;omega
def vP (r:Int):Int:=if r=12 then 1 else if r=11 then 2 else if inB r 0 9 then W (4*2 ^ (min r.toNat 64)) else 0
def cdP (n:Int):Int×Bool:=
 if n=32 then(0,true) else if n=38 then(vP 12,true) else if n=45 then(vP 11,true) else if aBZ n then(vP (W (IntKind.u8.wrap (n-48))),true)
 else if btw n 65 73 then(orI (vP 12) (vP (W (W (IntKind.u8.wrap (n-65))+1))),true) else if btw n 74 82 then(orI (vP 11) (vP (W (W (IntKind.u8.wrap (n-74))+1))),true)
 else if n=47 then(orI (vP 0) (vP 1),true) else if btw n 83 90 then(orI (vP 0) (vP (W (W (IntKind.u8.wrap (n-83))+2))),true) else(0,false)
theorem aNh (r:Int):Fz F.fA [.v (.int .i64 r)] (.v (.int .i64 (vP r))):=by
 refine fn0 Cd.i_bitOf_k λX=>?_
 repeat' first|simp -dsimp only[go_sem]|apply Br.mk<;>intro h<;>try simp -dsimp only[h]|refine RgK.mk rfl ?_|refine aA.c (by first|exact inside _ _ _) ?_|refine And.intro (by first|rfl|omega|decide|exact aES (by assumption)|(refine⟨?_,?_⟩<;>(first|rfl|omega|decide|exact aES (by assumption)))|(refine⟨?_,?_,?_⟩<;>(first|rfl|omega|decide|exact aES (by assumption)))|(refine⟨?_,?_,?_,?_⟩<;>(first|rfl|omega|decide|exact aES (by assumption)))) ?_|fail
 all_goals(simp_all [vP,IntKind.bits])
theorem isDigit (n:Int):Fz F.u7 [.v (.int .u8 n)] (.v (.bool (aBZ n))):=by
 refine fn0 Cd.i_isDigit_k λX=>?_
 repeat' first|simp -dsimp only[go_sem]|apply Br.mk<;>intro h<;>try simp -dsimp only[h]|refine aC ?_|fail
 all_goals(first|(simp_all [aBZ];done)|(simp_all [aBZ];omega))
theorem aNs (n:Int):Fz F.x9 [.v (.int .u8 n)] (.tup [.v (.int .i64 (cdP n).1),.v (.bool (cdP n).2)]):=by
 refine fn0 Cd.i_CodeOf_k λX=>?_
 repeat' first|simp -dsimp only[go_sem]|apply Br.mk<;>intro h<;>try simp -dsimp only[h]|refine aA.c (by first|exact aNh _|exact isDigit _) ?_|refine aC ?_|fail
 all_goals(first|(simp_all [cdP,btw,orI];done)|(refine aU ?_;grind [cdP,btw,orI]))
def cd3 (n:Int):Int:=(cdP n).1
theorem codeOf (n:Int):Fz F.vC [.v (.int .u8 n)] (.v (.int .i64 (cd3 n))):=by
 refine fn0 Cd.i_codeOf_k λX=>?_
 repeat' first|simp -dsimp only[go_sem]|apply Br.mk<;>intro h<;>try simp -dsimp only[h]|refine aA.c (by first|exact aNs _) ?_|refine aC ?_|fail
 all_goals(simp_all [cd3])
def chB (i:Nat):Nat:=(CH.data.toList.getD i 0).toNat
set_option maxRecDepth 100000 in
theorem aLW:∀i:Nat,i<40->cd3 (chB i)=l03 (chB i)∧0<=l03 (chB i):=by decide +kernel
def rkF (m:Int):Nat->Nat->Int
 |0,_=>-1
 |k+1,i=>if l03 (chB i)=m then i else rkF m k (i+1)
def rk (m:Int):Int:=rkF m 40 0
theorem aFj (m:Int) {i:Nat} (h:i<40):rkF m (40-i) i=if l03 (chB i)=m then(i:Int) else rkF m (40-(i+1)) (i+1):=by
 rw[show 40-i=(40-(i+1))+1 by omega,rkF]
theorem aEH (m:Int):∀(k i:Nat),k+i=40->-1<=rkF m k i∧rkF m k i<40∧(0<=rkF m k i->l03 (chB (rkF m k i).toNat)=m)
 |0,_,_=>by simp[rkF]
 | k+1,i,h=>by
  rw[rkF];split
  .rename_i u;exact⟨by omega,by omega,λ_=>by simpa using u⟩
  .exact aEH m k (i+1) (by omega)
theorem aCM (m:Int):-1<=rk m∧rk m<40:=⟨(aEH m 40 0 rfl).1,(aEH m 40 0 rfl).2.1⟩
theorem aHp {m:Int} (h:0<=rk m):l03 (chB (rk m).toNat)=m:=(aEH m 40 0 rfl).2.2 h
theorem aJz {a b:Int} (h:0<=rk a) (u:rk a=rk b):a=b:=by
 rw[←aHp h,u,aHp (u ▸ h)]
theorem chL (i:Nat):(([32,38,65,66,67,68,69,70,71,72,73,45,74,75,76,77,78,79,80,81,82,47,83,84,85,86,87,88,89,90,48,49,50,51,52,53,54,55,56,57]:List UInt8).getD i 0).toNat=chB i:=rfl
theorem chS:(⟨#[32,38,65,66,67,68,69,70,71,72,73,45,74,75,76,77,78,79,80,81,82,47,83,84,85,86,87,88,89,90,48,49,50,51,52,53,54,55,56,57]⟩:ByteArray).size=40:=rfl
attribute [local irreducible] chB rk cd3
theorem aCQ (m:Int):Fz F.pV [.v (.int .i64 m)] (.v (.int .i64 (rk m))):=by
 refine fn0 Cd.i_rankOf_k λX=>?_;simp -dsimp only[go_sem];refine aO.at dM (X:={zz:Nat×(Unit) // zz.1<=40∧rkF m (40-zz.1) zz.1=rk m}) (λzz=>[(3,.v (.int .i64 zz.1.1))]) (λzz=>[]) (λzz=>40-zz.1.1) ⟨(0,()),by omega,by unfold rk;rfl⟩ ?_ ?_
 .exact le0
 .rintro⟨⟨i,_⟩,hi,hg⟩;dsimp only at hi hg;simp -dsimp only[go_sem];refine Br.mk (λhc=>?_) λhc=>?_
  .have hlt:i<40:=Dq;have hw:=aI hlt (by omega);rw[aFj m hlt] at hg;have hcb:=(aLW i hlt).1;by_cases hz:l03 (chB i)=m
   .have ez:(l03 (chB i)==m)=true:=Bj.2 hz;rw[AY hz] at hg
    repeat' first|simp -dsimp only[go_sem,hw,chL,chS,hcb,ez]|apply Br.mk<;>intro h<;>try simp -dsimp only[h]|refine aA.c (by first|exact codeOf _) ?_|refine aC ?_|fail
    all_goals simp[←hg]
   .have ez:(l03 (chB i)==m)=false:=Ap.2 hz;rw[AJ hz] at hg
    repeat' first|simp -dsimp only[go_sem,hw,chL,chS,hcb,ez]|apply Br.mk<;>intro h<;>try simp -dsimp only[h]|refine aA.c (by first|exact codeOf _) ?_|refine aC ?_|fail
    all_goals(exact nx (i+1,()) hg)
  .have hge:i=40:=by
    have:¬i<40:=Dq;omega
   subst hge;simp -dsimp only[go_sem];have:rk m=-1:=by rw[←hg];rfl
   simp[this]
end
section
variable [Vs.Envs]
attribute [local irreducible] Vs.Fn chOK areCh chTo chAt l03 chB rk cd3
def cU (n:Int):List AV:=[.v (.int .u8 n)]
theorem pO:∀l:List Int,rT (E cU l)=some l
 | []=>rfl
 | n::r=>by
  have:=pO r;simp only[E,AU,cU,rT] at this⊢;rw[this]
def chI (m:Int):Int:=(chB (rk m).toNat:Int)
def txt (l:List Int):ByteArray:=lH (l.map chI)
def cZ (l:List Int):Bool:=l.all λm=>decide (0<=rk m)
theorem aNd:∀i:Nat,i<40->chB i<256:=λi _=>by unfold chB;exact UInt8.toNat_lt _
theorem aKj (m:Int):Fz F.bX [.v (.int .i64 m)] (.v (.bool (decide (rk m<0)))):=by
 refine fn0 Cd.i_hasCharacters_1_k λX=>?_
 repeat' first|simp -dsimp only[go_sem]|apply Br.mk<;>intro h<;>try simp -dsimp only[h]|refine aA.c (by first|exact aCQ _) ?_|refine aC ?_|fail
 all_goals(simp_all)
theorem idxCh (l:List Int) (u:l.length<=1048576):Fz F.jR [.sl 1 (E cI l),.fn F.bX []] (.v (.int .i64 (sP (λm=>decide (rk m<0)) l))):=
 aGL Tryz.mixed Cd.ixf_int64_k.o Cd.ixf_int64_k.n Cd.ixf_int64_k.r rfl (λm=>decide (rk m<0)) F.bX [] rfl (λm G=>aKj m) u
theorem conCh (l:List Int) (u:l.length<=1048576):Fz F.lF [.sl 1 (E cI l),.fn F.bX []] (.v (.bool (l.any (λm=>decide (rk m<0))))):=
 aF5 Tryz.mixed (g:=F.jR) Cd.ctf_int64_k.o Cd.ctf_int64_k.n Cd.ctf_int64_k.r rfl (λm=>decide (rk m<0)) F.bX [] rfl (idxCh l u)
theorem aEt (l:List Int):(!l.any λm=>decide (rk m<0))=cZ l:=by
 unfold cZ
 induction l with
 |nil=>rfl
 | cons x r ih =>
  simp only[List.any_cons,BO,Bool.not_or,ih];congr 1;by_cases h:rk x<0<;>simp[h]<;>omega
theorem aDM (l:List Int) (u:l.length<=1048576):Fz F.jH [.sl 1 (E cI l)] (.v (.bool (cZ l))):=by
 refine fn0 Cd.i_hasCharacters_k λX=>?_
 repeat' first|simp -dsimp only[go_sem]|apply Br.mk<;>intro h<;>try simp -dsimp only[h]|refine aA.c (by first|exact conCh l u) ?_|refine aC ?_|fail
 all_goals(first|(simp_all [aEt];done)|(refine aU ?_;have e:=aEt l;simp_all))
theorem aDd  : Fz F.l9 [] (.v (.string ⟨#[32,38,65,66,67,68,69,70,71,72,73,45,74,75,76,77,78,79,80,81,82,47,83,84,85,86,87,88,89,90,48,49,50,51,52,53,54,55,56,57]⟩)):=by
 refine fn0 Cd.s_l03Order_k λX=>?_
 repeat' first|simp -dsimp only[go_sem]|apply Br.mk<;>intro h<;>try simp -dsimp only[h]|refine aC ?_|fail
 all_goals(simp_all)
theorem aMv:(⟨#[32,38,65,66,67,68,69,70,71,72,73,45,74,75,76,77,78,79,80,81,82,47,83,84,85,86,87,88,89,90,48,49,50,51,52,53,54,55,56,57]⟩:ByteArray)=CH:=rfl
theorem tO:CH.size=40:=rfl
theorem aH9 (i:Nat):(CH.data.toList.getD i 0).toNat=chB i:=by unfold chB;rfl
set_option maxRecDepth 100000 in
theorem aHZ:∀i:Nat,i<40->∀j:Nat,j<40->chB i=chB j->i=j:=by decide +kernel
def aFI (m:Int):Int×Bool:=if 0<=rk m then(chI m,true) else(0,false)
theorem aHJ (m:Int):Fz F.uN [.v (.int .i64 m)] (.tup [.v (.int .u8 (aFI m).1),.v (.bool (aFI m).2)]):=by
 refine fn0 Cd.s_l03Char_k λX=>?_;simp -dsimp only[go_sem];refine aA.flat aDd rfl ?_;simp -dsimp only[go_sem,aMv];refine aO.at dM (X:={zz:Nat×(Unit) // zz.1<=40∧rkF m (40-zz.1) zz.1=rk m}) (λzz=>[(5,.v (.int .i64 zz.1.1))]) (λzz=>[]) (λzz=>40-zz.1.1) ⟨(0,()),by omega,by unfold rk;rfl⟩ ?_ ?_
 .exact le0
 .rintro⟨⟨i,_⟩,hi,hg⟩;dsimp only at hi hg;simp -dsimp only[go_sem,tO];refine Br.mk (λhc=>?_) λhc=>?_
  .have hlt:i<40:=Dq;have hw:=aI hlt (by omega);rw[aFj m hlt] at hg;have h8:i<CH.size:=hlt;by_cases hz:l03 (chB i)=m
   .have ez:(l03 (chB i)==m)=true:=Bj.2 hz;rw[AY hz] at hg
    repeat' first|simp -dsimp only[go_sem,hw,tO,aH9,ez]|apply Br.mk<;>intro h<;>try simp -dsimp only[h]|refine aA.c (by first|exact aA2 _) ?_|refine aC ?_|fail
    all_goals first
     |(refine aU ?_;have hr:rk m=(i:Int):=hg.symm;simp[aFI,chI,hr];done)
     |omega
   .have ez:(l03 (chB i)==m)=false:=Ap.2 hz;rw[AJ hz] at hg
    repeat' first|simp -dsimp only[go_sem,hw,tO,aH9,ez]|apply Br.mk<;>intro h<;>try simp -dsimp only[h]|refine aA.c (by first|exact aA2 _) ?_|refine aC ?_|fail
    all_goals first|omega|(exact nx (i+1,()) hg)
  .have hge:i=40:=by
    have:¬i<40:=Dq;omega
   subst hge;simp -dsimp only[go_sem,tO];have:rk m=-1:=by rw[←hg];rfl
   simp[aFI,this]
theorem aEQ (k:Nat) (hk:k<40):Fz F.qW [.v (.int .u8 (chB k))] (.v (.int .i64 (k:Int))):=by
 refine fn0 Cd.s_l03Rank_k λX=>?_;simp -dsimp only[go_sem];refine aA.flat aDd rfl ?_;simp -dsimp only[go_sem,aMv];refine aO.at dM (X:={zz:Nat×(Unit) // zz.1<=40∧zz.1<=k}) (λzz=>[(4,.v (.int .i64 zz.1.1))]) (λzz=>[]) (λzz=>40-zz.1.1) ⟨(0,()),by omega,by omega⟩ ?_ ?_
 .exact le0
 .rintro⟨⟨i,_⟩,hi,hg⟩;dsimp only at hi hg;simp -dsimp only[go_sem,tO];refine Br.mk (λhc=>?_) λhc=>?_
  .have hlt:i<40:=Dq;have hw:=aI hlt (by omega);have h8:i<CH.size:=hlt;by_cases hz:i=k
   .subst hz;have ez:((chB i:Int)==(chB i:Int))=true:=Bj.2 rfl
    repeat' first|simp -dsimp only[go_sem,hw,tO,aH9,ez]|apply Br.mk<;>intro h<;>try simp -dsimp only[h]|refine aC ?_|fail
    all_goals first|(simp_all;done)|omega
   .have ez:((chB i:Int)==(chB k:Int))=false:=Ap.2 (λh=>hz (aHZ i hlt k hk (by omega)))
    repeat' first|simp -dsimp only[go_sem,hw,tO,aH9,ez]|apply Br.mk<;>intro h<;>try simp -dsimp only[h]|refine aC ?_|fail
    all_goals first|omega|(exact nx (i+1,()) (by dsimp only at hg⊢;omega))
  .have hge:i=40:=by
    have:¬i<40:=Dq;omega
   subst hge;simp -dsimp only[go_sem,tO];omega
end
end Go.Proofs.YtmiiohemehacjaaGreatDoor
