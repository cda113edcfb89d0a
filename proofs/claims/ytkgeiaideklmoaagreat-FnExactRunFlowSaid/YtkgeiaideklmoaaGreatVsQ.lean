/- From the statement's arguments to closed values, and from a contract to the statement's answer. -/
import Derived.Test.YtkgeiaideklmoaaGreatVsX
import GoSem.ClaimJoined
import Derived.ProofKit
import Derived.JoinedOf
set_option linter.all false
set_option maxHeartbeats 8000000
namespace Go.Proofs.YtkgeiaideklmoaaGreat
section
def swp (l:List Int) (i j:Nat):List Int:=(l.set i (l.getD j 0)).set j (l.getD i 0)
theorem eF (l:List Int) (i j:Nat):(swp l i j).length=l.length:=by simp[swp]
theorem aB7 (P M Q:List Int) (x y:Int):swp (P++x::(M++y::Q)) P.length (P.length+(M.length+1))=P++y::(M++x::Q):=by
 have F:(P++x::(M++y::Q)).getD P.length 0=x:=by simp[List.getD]
 have h2:(P++x::(M++y::Q)).getD (P.length+(M.length+1)) 0=y:=by
  simp[List.getD,Bi]
 rw[swp,F,h2,Cy _ _ (Ar _),Cw,Ac,Cy _ _ (by omega)];rw[show P.length+(M.length+1)-P.length=M.length+1 by omega,Ak,Cy _ _ (Ar _),Cw,Ac]
theorem aFr (l:List Int) {i j:Nat} (h:i≠j):swp l i j=swp l j i:=by rw[swp,swp,List.set_comm _ _ h]
/-! ## insertion -/
def xE (lt:Int->Int->Bool) (a:Nat):Nat->List Int->List Int
 |0,l=>l
 |j+1,l=>if a<j+1∧lt (l.getD (j+1) 0) (l.getD j 0)=true then xE lt a j (swp l (j+1) j) else l
theorem yA (lt:Int->Int->Bool) (a:Nat):∀(j:Nat) (l:List Int),(xE lt a j l).length=l.length
 |0,l=>rfl
 | j+1,l=>by
  rw[xE];split
  .rw[yA lt a j,eF]
  .rfl
theorem aD7 (lt:Int->Int->Bool) (a:Nat) (l:List Int):xE lt a a l=l:=by
 cases a with
 |zero=>rfl
 |succ a=>rw[xE,AB (by omega)]
def wR (lt:Int->Int->Bool) (a:Nat):Nat->Nat->List Int->List Int
 |0,_,l=>l
 |n+1,i,l=>wR lt a n (i+1) (xE lt a i l)
theorem aBP (lt:Int->Int->Bool) (a:Nat):∀(n i:Nat) (l:List Int),(wR lt a n i l).length=l.length
 |0,_,l=>rfl
 |n+1,i,l=>by rw[wR,aBP lt a n,yA]
def qY (lt:Int->Int->Bool) (a b:Nat) (l:List Int):List Int:=wR lt a (b-(a+1)) (a+1) l
theorem iD (lt:Int->Int->Bool) (a b:Nat) (l:List Int):(qY lt a b l).length=l.length:=aBP ..
theorem aIp (lt:Int->Int->Bool) (P:List Int):∀(n:Nat) (S:List Int) (x:Int) (Q:List Int),S.length=n->
  ∃F H,S=F++H∧xE lt P.length (P.length+n) (P++(S++x::Q))=P++(F++x::(H++Q))∧(∀e,e∈H->lt x e=true)∧∀e,F.getLast? = some e->lt x e=false
 | 0,S,x,Q,h=>by
  obtain rfl:=Bt h;exact⟨[],[],rfl,by rw[Ct,aD7];rfl,by simp,by simp⟩
 | n+1,S,x,Q,h=>by
  rcases List.eq_nil_or_concat S with rfl|⟨S',e,rfl⟩
  .simp at h
  .simp only[List.concat_eq_append] at h⊢;have J:S'.length=n:=by simpa using h
   have Y:(P++((S'++[e])++x::Q)).getD (P.length+n+1) 0=x:=by
    rw[←J];simp[List.getD,Bi,Ck]
   have L:(P++((S'++[e])++x::Q)).getD (P.length+n) 0=e:=by
    rw[←J];simp[List.getD,Bi]
   rw[←Ck,xE,Y,L];cases hlt:lt x e
   .rw[AB (by simp)]
    exact ⟨S'++[e],[],by simp,by simp,by simp,λe' U=>by
      rw[List.getLast?_concat] at U;obtain rfl:=Ay U;exact hlt⟩
   .rw[AP ⟨by omega,rfl⟩]
    have O:swp (P++((S'++[e])++x::Q)) (P.length+n+1) (P.length+n)=P++(S'++x::(e::Q)):=by
     rw[aFr _ (by omega)];have:=aB7 (P++S') [] Q e x;simp only[AQ,J,Ah,BU,Ai,←Ck] at this;simpa using this
    rw[O];obtain⟨F,H,Z,h2,h3,h4⟩:=aIp lt P n S' x (e::Q) J;refine⟨F,H++[e],by rw[Z];simp,by rw[h2];simp,λz I=>?_,h4⟩;rcases Bf.1 I with I|I
    .exact h3 z I
    .obtain rfl:=Au.1 I;exact hlt
def aDL (lt:Int->Int->Bool) (r:Int->Int->Prop) (e x:Int):Prop:=(lt x e=true↔r x e)∧(r e x∨r x e)
section
variable {lt:Int->Int->Bool}{r:Int->Int->Prop} (htr:∀x y z,r x y->r y z->r x z)
include htr
theorem aK3 (P:List Int) {S:List Int}{x:Int} (Q:List Int) (hs:S.Pairwise r) (ha:∀e,e∈S->aDL lt r e x) :
  ∃Z,xE lt P.length (P.length+S.length) (P++(S++x::Q))=P++(Z++Q)∧Z.Perm (S++[x])∧Z.Pairwise r:=by
 obtain⟨H,I,rfl,h2,h3,h4⟩:=aIp lt P _ S x Q rfl;refine⟨H++x::I,by rw[h2];simp,?_,?_⟩
 .have:(H++x::I).Perm (H++(I++[x])):=List.Perm.append_left H (List.perm_append_singleton x I).symm;simpa using this
 .obtain⟨p1,p2,p3⟩:=Bp.1 hs;have hb:∀e,e∈I->r x e:=λe F=>(ha e (by simp[F])).1.1 (h3 e F)
  have Y:∀e,e∈H->r e x:=by
   intro e F
   obtain ⟨l,O⟩:∃l,H.getLast? = some l:=by
    cases h:H.getLast? with
    |none=>rw[List.getLast?_eq_none_iff] at h;rw[h] at F;cases F
    |some l=>exact⟨l,rfl⟩
   have U:l∈H:=List.mem_of_getLast? O;have J:=ha l (by simp[U])
   have L:r l x:=by
    rcases J.2 with h|h
    .exact h
    .have:=J.1.2 h;rw[h4 l O] at this;cases this
   obtain⟨S0,rfl⟩:=List.getLast?_eq_some_iff.1 O;rcases Bf.1 F with F|F
   .exact htr _ _ _ ((Bp.1 p1).2.2 e F l (by simp)) L
   .obtain rfl:=Au.1 F;exact L
  refine Bp.2 ⟨p1,Cx.2 ⟨hb,p2⟩,λe F z hz=>?_⟩;rcases Ap.1 hz with rfl|hz
  .exact Y e F
  .exact p3 e F z hz
theorem aF6 (P:List Int):∀(X S Q:List Int),S.Pairwise r->(∀e,e∈S->∀x,x∈X->aDL lt r e x)->X.Pairwise (aDL lt r)->
  ∃Z,wR lt P.length X.length (P.length+S.length) (P++(S++(X++Q)))=P++(Z++Q)∧Z.Perm (S++X)∧Z.Pairwise r
 | [],S,Q,hs,_,_=>⟨S,by simp[wR],by simp,hs⟩
 | x::X,S,Q,hs,ha,hp=>by
  obtain⟨L,U,h2,Y⟩:=aK3 htr P (X++Q) hs (λe H=>ha e H x (by simp));have F:L.length=S.length+1:=by simpa using h2.length_eq
  obtain⟨I,J⟩:=Cx.1 hp
  obtain ⟨Z,h4,h5,h6⟩:=aF6 P X L Q Y (λe H y O=>by
    rcases Bf.1 (h2.mem_iff.1 H) with h|h
    . exact ha e h y (by simp[O])
    . obtain rfl:=Au.1 h;exact I y O) J
  refine⟨Z,?_,?_,h6⟩
  .simp only[Ab,wR,Ae];rw[U,←h4,F,Ck]
  .refine h5.trans ((CW X h2).trans ?_);simp
theorem aC5 (P X Q:List Int) (O:X.Pairwise (aDL lt r)):∃Z,qY lt P.length (P.length+X.length) (P++(X++Q))=P++(Z++Q)∧Z.Perm X∧Z.Pairwise r:=by
 cases X with
 |nil=>exact⟨[],by simp[qY,show P.length-(P.length+1)=0 by omega,wR],by simp,by simp⟩
 | cons x X =>
  obtain⟨F,H⟩:=Cx.1 O;obtain⟨Z,I,h2,J⟩:=aF6 htr P X [x] Q (by simp) (λe L y U=>by obtain rfl:=Au.1 L;exact F y U) H;refine⟨Z,?_,by simpa using h2,J⟩;rw[qY,show P.length+(x::X).length-(P.length+1)=X.length by simp;omega];simpa using I
end
/-! ## searching -/
def bs (p:Nat->Bool) (i j:Nat):Nat:=if h:i<j then(if p ((i+j)/2)=true then bs p ((i+j)/2+1) j else bs p i ((i+j)/2)) else i
termination_by j-i
theorem uH (p:Nat->Bool) {i j:Nat} (h:¬i<j):bs p i j=i:=by rw[bs,dif_neg h]
theorem aBE (p:Nat->Bool) {i j:Nat} (h:i<j) (F:p ((i+j)/2)=true):bs p i j=bs p ((i+j)/2+1) j:=by rw[bs,dif_pos h,AP F]
theorem aEo (p:Nat->Bool) {i j:Nat} (h:i<j) (F:p ((i+j)/2)=false):bs p i j=bs p i ((i+j)/2):=by rw[bs,dif_pos h,AB (by simp[F])]
theorem aGs (p:Nat->Bool):∀(n i j:Nat),j-i<=n->i<=j->(∀c d,i<=c->c<=d->d<j->p d=true->p c=true)->
  (i<=bs p i j∧bs p i j<=j)∧(∀c,i<=c->c<bs p i j->p c=true)∧∀c,bs p i j<=c->c<j->p c=false
 | 0,i,j,h,hij,hm=>by
  rw[uH p (by omega)];exact⟨by omega,λc J h2=>by omega,λc J h2=>by omega⟩
 | n+1,i,j,h,hij,hm=>by
  by_cases I:i<j
  .cases hp:p ((i+j)/2)
   .rw[aEo p I hp];obtain⟨J,h2,L⟩:=aGs p n i ((i+j)/2) (by omega) (by omega) λc d a b e=>hm c d a b (by omega);refine⟨by omega,h2,λc O H=>?_⟩;by_cases F:c<(i+j)/2
    .exact L c O F
    .cases hpc:p c with
     |false=>rfl
     |true=>rw[hm ((i+j)/2) c (by omega) (by omega) H hpc] at hp;cases hp
   .rw[aBE p I hp];obtain⟨J,h2,L⟩:=aGs p n ((i+j)/2+1) j (by omega) (by omega) λc d a b e=>hm c d (by omega) b e;refine⟨by omega,λc O H=>?_,L⟩;by_cases F:c<=(i+j)/2
    .exact hm c _ O F (by omega) hp
    .exact h2 c (by omega) H
  .rw[uH p I];exact⟨by omega,λc J h2=>by omega,λc J h2=>by omega⟩
/-! ## moving -/
def mvU:Nat->Nat->List Int->List Int
 |0,_,l=>l
 |n+1,k,l=>mvU n (k+1) (swp l k (k+1))
def mvD:Nat->Nat->List Int->List Int
 |0,_,l=>l
 |n+1,k,l=>mvD n (k-1) (swp l k (k-1))
def swR:Nat->Nat->Nat->List Int->List Int
 |0,_,_,l=>l
 |n+1,a,b,l=>swR n (a+1) (b+1) (swp l a b)
def rot (m:Nat):Nat->Nat->Nat->List Int->List Int
 |0,_,_,l=>l
 |f+1,i,j,l=>if i=j then swR i (m-i) m l else if j<i then rot m f (i-j) j (swR j (m-i) m l) else rot m f i (j-i) (swR i (m-i) (m+j-i) l)
theorem aCV:∀(n k:Nat) (l:List Int),(mvU n k l).length=l.length
 |0,_,_=>rfl
 |n+1,k,l=>by rw[mvU,aCV n,eF]
theorem aCW:∀(n k:Nat) (l:List Int),(mvD n k l).length=l.length
 |0,_,_=>rfl
 |n+1,k,l=>by rw[mvD,aCW n,eF]
theorem j5:∀(n a b:Nat) (l:List Int),(swR n a b l).length=l.length
 |0,_,_,_=>rfl
 |n+1,a,b,l=>by rw[swR,j5 n,eF]
theorem oP (m:Nat):∀(f i j:Nat) (l:List Int),(rot m f i j l).length=l.length
 |0,_,_,_=>rfl
 | f+1,i,j,l=>by
  rw[rot];split
  .rw[j5]
  .split
   .rw[oP m f,j5]
   .rw[oP m f,j5]
theorem aKM:∀(R P Q:List Int) (x:Int),mvU R.length P.length (P++x::(R++Q))=P++(R++x::Q)
 | [],P,Q,x=>rfl
 | y::R,P,Q,x=>by
  have:=aB7 P [] (R++Q) x y;simp only[Ah,Ai,BU] at this;simp only[Ab,mvU,Ae];rw[this];have h2:=aKM R (P++[y]) Q x;simp only[AQ,Ab,Ah,BU,Bw,Ae,Ai] at h2;exact h2
theorem aKO (P:List Int):∀(n:Nat) (L Q:List Int) (y:Int),L.length=n->mvD n (P.length+n) (P++(L++y::Q))=P++(y::(L++Q))
 | 0,L,Q,y,h=>by
  obtain rfl:=Bt h;rfl
 | n+1,L,Q,y,h=>by
  rcases List.eq_nil_or_concat L with rfl|⟨L',e,rfl⟩
  .simp at h
  .simp only[List.concat_eq_append] at h⊢;have H:L'.length=n:=by simpa using h
   have F:swp (P++((L'++[e])++y::Q)) (P.length+(n+1)) (P.length+n)=P++(L'++y::(e::Q)):=by
    rw[aFr _ (by omega)];have:=aB7 (P++L') [] Q e y;simp only[AQ,H,Ah,BU,Ai] at this;simpa[Ck] using this
   rw[mvD,show P.length+(n+1)-1=P.length+n by omega,F,aKO P n L' (e::Q) y H];simp
theorem aED:∀(X Y P M Q:List Int),X.length=Y.length->swR X.length P.length (P.length+X.length+M.length) (P++(X++(M++(Y++Q))))=P++(Y++(M++(X++Q)))
 | [],Y,P,M,Q,h=>by
  obtain rfl:=Bt h.symm;rfl
 |x::X,[],P,M,Q,h=>by simp at h
 | x::X,y::Y,P,M,Q,h=>by
  have H:X.length=Y.length:=by simpa using h
  have F:=aB7 P (X++M) (Y++Q) x y;simp only[AQ,Bw] at F;simp only[Ab,swR,Ae];rw[show P.length+(X.length+1)+M.length=P.length+(X.length+M.length+1) by omega,F];have h2:=aED X Y (P++[y]) (M++[x]) Q H;simp only[AQ,Ab,Ah,BU,Bw,Ae,Ai] at h2;rw[show P.length+(X.length+M.length+1)+1=P.length+1+X.length+(M.length+1) by omega,h2]
theorem aGW (m:Nat):∀(f:Nat) (X Y P Q:List Int),X.length+Y.length<=f->X≠[]->Y≠[]->m=P.length+X.length->
  rot m f X.length Y.length (P++(X++(Y++Q)))=P++(Y++(X++Q))
 | 0,X,Y,P,Q,hf,hx,_,_=>by
  exact absurd (Bt (by omega:X.length=0)) hx
 | f+1,X,Y,P,Q,hf,hx,hy,hm=>by
  have hc:0<X.length:=Ca.2 hx;have hd:0<Y.length:=Ca.2 hy;rw[rot];split
  .rename_i he;have:=aED X Y P [] Q he;simp only[Ah,Ct,Ai] at this;rw[show m-X.length=P.length by omega,hm];exact this
  .rename_i Z;split
   .rename_i U;obtain⟨F,H,rfl,L⟩:∃F H,X=F++H∧F.length=Y.length:=⟨X.take Y.length,X.drop Y.length,by simp,by simp;omega⟩;have h2:(F++H).length=F.length+H.length:=by simp
    have:=aED F Y P H Q L;have ha:H≠[]:=by rintro rfl;simp at U;omega
    rw[show m-(F++H).length=P.length by omega,←L,hm,h2,Bw F H,←Ck,this,show F.length+H.length-F.length=H.length by omega];have O:=aGW (P.length+F.length+H.length) f H F (P++Y) Q (by omega) ha (by rintro rfl;simp at L;omega) (by simp;omega);simp only[Bw] at O;rw[O,Bw]
   .obtain⟨I,J,rfl,L⟩:∃I J,Y=I++J∧J.length=X.length:=⟨Y.take (Y.length-X.length),Y.drop (Y.length-X.length),by simp,by simp;omega⟩;have h2:(I++J).length=I.length+J.length:=by simp
    have:=aED X J P I Q L.symm;have hb:I≠[]:=by rintro rfl;simp at Z;omega
    rw[h2,L,show m-X.length=P.length by omega,show m+(I.length+X.length)-X.length=P.length+X.length+I.length by omega,Bw I J,this,show I.length+X.length-X.length=I.length by omega];have O:=aGW m f J I P (X++Q) (by omega) (by rintro rfl;simp at L;omega) hb (by omega);rw[L] at O;rw[O]
    try simp
/-! ## merging -/
def smg (lt:Int->Int->Bool):Nat->Nat->Nat->Nat->List Int->List Int
 |0,_,_,_,l=>l
 | f+1,a,m,b,l =>
  if m-a=1 then mvU (bs (λh=>lt (l.getD h 0) (l.getD a 0)) m b-1-a) a l
  else if b-m=1 then mvD (m-bs (λh=>!lt (l.getD m 0) (l.getD h 0)) a m) m l
  else
   let mid:=(a+b)/2
   let s:=bs (λc=>!lt (l.getD (mid+m-1-c) 0) (l.getD c 0)) (if mid<m then mid+m-b else a) (if mid<m then mid else m)
   let l1:=if s<m∧m<mid+m-s then rot m (mid+m-s-s) (m-s) (mid+m-s-m) l else l
   let l2:=if a<s∧s<mid then smg lt f a s mid l1 else l1
   if mid<mid+m-s∧mid+m-s<b then smg lt f mid (mid+m-s) b l2 else l2
theorem oG (lt:Int->Int->Bool):∀(f a m b:Nat) (l:List Int),(smg lt f a m b l).length=l.length
 |0,_,_,_,_=>rfl
 | f+1,a,m,b,l=>by
  rw[smg];split
  .rw[aCV]
  .split
   .rw[aCW]
   .dsimp only
    repeat' split
    all_goals simp only[oG lt f,oP]
theorem get_at {P L R:List Int}{i:Nat} (hi:i<L.length):(P++(L++R)).getD (P.length+i) 0=L.getD i 0:=by
 simp[List.getD,Bi,BB hi]
theorem xU {r:Int->Int->Prop}{L:List Int} (h:L.Pairwise r) {i j:Nat} (F:i<j) (H:j<L.length):r (L.getD i 0) (L.getD j 0):=by
 have:=Dg.1 h i j (by omega) H F;simpa[List.getD,H,show i<L.length by omega] using this
theorem fG {L:List Int}{i:Nat} (hi:i<L.length):L.getD i 0∈L:=by simp[List.getD,hi]
theorem kS {L:List Int}{x:Int} (h:x∈L):∃i,i<L.length∧L.getD i 0=x:=by
 obtain⟨i,hi,rfl⟩:=Cb.1 h;exact⟨i,hi,by simp[List.getD,hi]⟩
section
variable {lt:Int->Int->Bool}{r:Int->Int->Prop} (htr:∀x y z,r x y->r y z->r x z) (has:∀x y,r x y->¬r y x)
include has
theorem vY {e x:Int} (h:aDL lt r e x):lt x e=false↔r e x:=by
 constructor
 .intro F;rcases h.2 with h2|h2
  .exact h2
  .rw[h.1.2 h2] at F;cases F
 .intro H;cases hl:lt x e with
  |false=>rfl
  |true=>exact absurd (h.1.1 hl) (has _ _ H)
include htr
theorem aLZ (P R Q:List Int) (x:Int) (hR:R.Pairwise r) (ha:∀y,y∈R->aDL lt r x y) :
  ∃Z,mvU (bs (λh=>lt ((P++(x::(R++Q))).getD h 0) ((P++(x::(R++Q))).getD P.length 0)) (P.length+1) (P.length+1+R.length)-1-P.length) P.length (P++(x::(R++Q)))=P++(Z++Q)∧Z.Perm (x::R)∧Z.Pairwise r:=by
 have ex:(P++(x::(R++Q))).getD P.length 0=x:=by simp[List.getD]
 have O:∀i,i<R.length->(P++(x::(R++Q))).getD (P.length+1+i) 0=R.getD i 0:=by
  intro i hi;have:=get_at (P:=P++[x]) (R:=Q) hi;simpa using this
 rw[ex];have F:∀i,i<R.length->(lt (R.getD i 0) x=true↔r (R.getD i 0) x):=λi hi=>(ha _ (fG hi)).1
 obtain ⟨h1,h2,h3⟩:=aGs (λh=>lt ((P++(x::(R++Q))).getD h 0) x) _ (P.length+1) (P.length+1+R.length) (Ar _) (by omega) (by
   intro c d hc hg hd J;obtain⟨i,rfl⟩:∃i,c=P.length+1+i:=⟨c-(P.length+1),by omega⟩;obtain⟨j,rfl⟩:∃j,d=P.length+1+j:=⟨d-(P.length+1),by omega⟩
   try simp only at J⊢
   rw[O j (by omega)] at J;rw[O i (by omega)];by_cases Y:i=j
   . subst Y;exact J
   . exact(F i (by omega)).2 (htr _ _ _ (xU hR (by omega) (by omega)) ((F j (by omega)).1 J)))
 generalize bs (λh=>lt ((P++(x::(R++Q))).getD h 0) x) (P.length+1) (P.length+1+R.length)=s at *
 obtain⟨k,rfl⟩:∃k,s=P.length+1+k:=⟨s-(P.length+1),by omega⟩;have hk:k<=R.length:=by omega
 have U:R=R.take k++R.drop k:=(BR k R).symm;have H:(R.take k).length=k:=by simp;omega
 refine⟨R.take k++x::R.drop k,?_,?_,?_⟩
 .have:=aKM (R.take k) P (R.drop k++Q) x;rw[H,←Bw,BR] at this;rw[show P.length+1+k-1-P.length=k by omega,this];simp
 .have h4:(R.take k++x::R.drop k).Perm (x::(R.take k++R.drop k)):=List.perm_middle;rw[BR] at h4;exact h4
 .have J:=hR;rw[U] at J;obtain⟨p1,p2,p3⟩:=Bp.1 J
  have hb:∀e,e∈R.take k->r e x:=by
   intro e L;obtain⟨i,hi,rfl⟩:=kS L;rw[H] at hi;have I:=h2 (P.length+1+i) (by omega) (by omega)
   try simp only at I
   rw[O i (by omega)] at I;have:(R.take k).getD i 0=R.getD i 0:=by simp[List.getD,List.getElem?_take,hi]
   rw[this];exact(F i (by omega)).1 I
  have hf:∀e,e∈R.drop k->r x e:=by
   intro e L;obtain⟨i,hi,rfl⟩:=kS L;simp only[Cg] at hi;have I:=h3 (P.length+1+(k+i)) (by omega) (by omega)
   try simp only at I
   rw[O (k+i) (by omega)] at I;have:(R.drop k).getD i 0=R.getD (k+i) 0:=by simp[List.getD,Dr]
   rw[this];exact(vY has (ha _ (fG (by omega)))).1 I
  refine Bp.2 ⟨p1,Cx.2 ⟨hf,p2⟩,λe L z hz=>?_⟩;rcases Ap.1 hz with rfl|hz
  .exact hb e L
  .exact p3 e L z hz
theorem aKc (P L Q:List Int) (y:Int) (hL:L.Pairwise r) (ha:∀x,x∈L->aDL lt r x y) :
  ∃Z,mvD (P.length+L.length-bs (λh=>!lt ((P++(L++(y::Q))).getD (P.length+L.length) 0) ((P++(L++(y::Q))).getD h 0)) P.length (P.length+L.length)) (P.length+L.length) (P++(L++(y::Q)))=P++(Z++Q)∧Z.Perm (L++[y])∧Z.Pairwise r:=by
 have ey:(P++(L++(y::Q))).getD (P.length+L.length) 0=y:=by
  simp[List.getD,Bi]
 have Y:∀i,i<L.length->(P++(L++(y::Q))).getD (P.length+i) 0=L.getD i 0:=λi hi=>get_at hi;rw[ey];have F:∀i,i<L.length->(lt y (L.getD i 0)=false↔r (L.getD i 0) y):=λi hi=>vY has (ha _ (fG hi))
 obtain ⟨h1,h2,h3⟩:=aGs (λh=>!lt y ((P++(L++(y::Q))).getD h 0)) _ P.length (P.length+L.length) (Ar _) (by omega) (by
   intro c d hc hj hd O;obtain⟨i,rfl⟩:∃i,c=P.length+i:=⟨c-P.length,by omega⟩;obtain⟨j,rfl⟩:∃j,d=P.length+j:=⟨d-P.length,by omega⟩;simp only[BA] at O⊢;rw[Y j (by omega)] at O;rw[Y i (by omega)];by_cases hf:i=j
   . subst hf;exact O
   . exact(F i (by omega)).2 (htr _ _ _ (xU hL (by omega) (by omega)) ((F j (by omega)).1 O)))
 generalize bs (λh=>!lt y ((P++(L++(y::Q))).getD h 0)) P.length (P.length+L.length)=s at *
 obtain⟨k,rfl⟩:∃k,s=P.length+k:=⟨s-P.length,by omega⟩;have hk:k<=L.length:=by omega
 have hb:L=L.take k++L.drop k:=(BR k L).symm;have H:(L.take k).length=k:=by simp;omega
 have J:(L.drop k).length=L.length-k:=by simp
 refine⟨L.take k++y::L.drop k,?_,?_,?_⟩
 .have:=aKO (P++L.take k) (L.length-k) (L.drop k) Q y J;simp only[AQ,H,Bw] at this;rw[←Bw (L.take k),BR,show P.length+k+(L.length-k)=P.length+L.length by omega] at this;rw[show P.length+L.length-(P.length+k)=L.length-k by omega,this];simp
 .have h4:(L.take k++y::L.drop k).Perm (y::(L.take k++L.drop k)):=List.perm_middle;rw[BR] at h4;exact h4.trans (List.perm_append_singleton y L).symm
 .have O:=hL;rw[hb] at O;obtain⟨p1,p2,p3⟩:=Bp.1 O
  have hg:∀e,e∈L.take k->r e y:=by
   intro e U;obtain⟨i,hi,rfl⟩:=kS U;rw[H] at hi;have I:=h2 (P.length+i) (by omega) (by omega);simp only[BA] at I;rw[Y i (by omega)] at I;have:(L.take k).getD i 0=L.getD i 0:=by simp[List.getD,List.getElem?_take,hi]
   rw[this];exact(F i (by omega)).1 I
  have hh:∀e,e∈L.drop k->r y e:=by
   intro e U;obtain⟨i,hi,rfl⟩:=kS U;simp only[Cg] at hi;have I:=h3 (P.length+(k+i)) (by omega) (by omega);simp only[Bool.not_eq_false'] at I;rw[Y (k+i) (by omega)] at I;have:(L.drop k).getD i 0=L.getD (k+i) 0:=by simp[List.getD,Dr]
   rw[this];exact(ha _ (fG (by omega))).1.1 I
  refine Bp.2 ⟨p1,Cx.2 ⟨hh,p2⟩,λe U z hz=>?_⟩;rcases Ap.1 hz with rfl|hz
  .exact hg e U
  .exact p3 e U z hz
end
end
section
section
variable {lt:Int->Int->Bool}{r:Int->Int->Prop} (htr:∀x y z,r x y->r y z->r x z) (has:∀x y,r x y->¬r y x)
include htr has
theorem aEH:∀(f:Nat) (P L R Q:List Int),L.length+R.length<=f->L≠[]->R≠[]->L.Pairwise r->R.Pairwise r->(∀x,x∈L->∀y,y∈R->aDL lt r x y)->
  ∃Z,smg lt f P.length (P.length+L.length) (P.length+L.length+R.length) (P++(L++(R++Q)))=P++(Z++Q)∧Z.Perm (L++R)∧Z.Pairwise r
 |0,P,L,R,Q,hf,hl,_,_,_,_=>absurd (Bt (by omega:L.length=0)) hl
 | f+1,P,L,R,Q,hf,hl,hr,hL,hR,ha=>by
  have qr:0<L.length:=Ca.2 hl;have qt:0<R.length:=Ca.2 hr;rw[smg];by_cases h1:L.length=1
  .rw[AP (by omega)];obtain⟨x,rfl⟩:=List.length_eq_one_iff.1 h1;have:=aLZ htr has P R Q x hR (λy hy=>ha x (by simp) y hy);simpa using this
  rw[AB (by omega)];by_cases h2:R.length=1
  .rw[AP (by omega)];obtain⟨y,rfl⟩:=List.length_eq_one_iff.1 h2;have:=aKc htr has P L Q y hL (λx hx=>ha x hx y (by simp));simpa using this
  rw[AB (by omega)];dsimp only;have eL:∀i,i<L.length->(P++(L++(R++Q))).getD (P.length+i) 0=L.getD i 0:=λi hi=>get_at hi
  have eR:∀j,j<R.length->(P++(L++(R++Q))).getD (P.length+L.length+j) 0=R.getD j 0:=by
   intro j hj;have:=get_at (P:=P++L) (R:=Q) hj;simpa using this
  generalize ql:(P.length+(P.length+L.length+R.length))/2=mid;have qs:2*mid<=P.length+(P.length+L.length+R.length)∧P.length+(P.length+L.length+R.length)<=2*mid+1:=by omega
  generalize hm:P.length+L.length=m at *
  generalize ht:(if mid<m then mid+m-(m+R.length) else P.length)=lo;generalize hs:(if mid<m then mid else m)=hi
  have qd:P.length<=lo∧lo<=hi∧hi<=m∧hi<=mid∧mid+m-lo<=m+R.length∧(mid<m->lo=mid-R.length∧hi=mid)∧(¬mid<m->lo=P.length∧hi=m):=by
   by_cases h:mid<m
   .rw[AP h] at ht hs;omega
   .rw[AB h] at ht hs;omega
  obtain⟨b1,b2,b3,b4,b5,b6,b7⟩:=qd
  have hb:∀c,lo<=c->c<hi->∃i j,c=P.length+i∧mid+m-1-c=m+j∧i<L.length∧j<R.length∧(P++(L++(R++Q))).getD c 0=L.getD i 0∧(P++(L++(R++Q))).getD (mid+m-1-c) 0=R.getD j 0:=by
   intro c O h4;refine⟨c-P.length,mid+m-1-c-m,by omega,by omega,by omega,by omega,?_,?_⟩
   .rw[←eL _ (by omega)];congr 1;omega
   .rw[←eR _ (by omega)];congr 1;omega
  have he:∀c d,lo<=c->c<=d->d<hi->(λc=>!lt ((P++(L++(R++Q))).getD (mid+m-1-c) 0) ((P++(L++(R++Q))).getD c 0)) d=true->(λc=>!lt ((P++(L++(R++Q))).getD (mid+m-1-c) 0) ((P++(L++(R++Q))).getD c 0)) c=true:=by
   intro c d O h4 U hp;obtain⟨i,j,e1,e2,e3,e4,e5,e6⟩:=hb c O (by omega);obtain⟨i',j',qm,qn,hq,h8,h9,qa⟩:=hb d (by omega) U;simp only[BA] at hp⊢;rw[h9,qa,vY has (ha _ (fG hq) _ (fG h8))] at hp;rw[e5,e6,vY has (ha _ (fG e3) _ (fG e4))];by_cases qq:c=d
   .have:i=i':=by omega
    have:j=j':=by omega
    subst_vars;assumption
   .exact htr _ _ _ (htr _ _ _ (xU hL (by omega:i<i') hq) hp) (xU hR (by omega:j'<j) e4)
  obtain⟨s1,s2,s3⟩:=aGs (λc=>!lt ((P++(L++(R++Q))).getD (mid+m-1-c) 0) ((P++(L++(R++Q))).getD c 0)) _ lo hi (Ar _) b2 he;generalize bs (λc=>!lt ((P++(L++(R++Q))).getD (mid+m-1-c) 0) ((P++(L++(R++Q))).getD c 0)) lo hi=s at *
  obtain⟨H,I,rfl,qo⟩:∃H I,L=H++I∧H.length=s-P.length:=⟨L.take (s-P.length),L.drop (s-P.length),by simp,by simp;omega⟩;obtain⟨F,J,rfl,qp⟩:∃F J,R=F++J∧F.length=mid-s:=⟨R.take (mid-s),R.drop (mid-s),by simp,by simp;omega⟩;simp only[AQ] at *
  obtain⟨hh,hk,qj⟩:=Bp.1 hL;obtain⟨hn,ho,qk⟩:=Bp.1 hR
  have hA:∀x,x∈H->∀y,y∈J->r x y:=by
   intro x hx y hy;have O:0<H.length:=Dy hx;have h4:0<J.length:=Dy hy
   have hd:lo<=s-1:=by
    by_cases h:mid<m
    .have:=(b6 h).1;omega
    .have:=(b7 h).1;omega
   obtain⟨i,j,e1,e2,e3,e4,e5,e6⟩:=hb (s-1) hd (by omega);have U:=s2 (s-1) hd (by omega);simp only[BA] at U;rw[e5,e6,vY has (ha _ (fG (by simpa using e3)) _ (fG (by simpa using e4)))] at U
   have g1:(H++I).getD i 0=H.getD (H.length-1) 0:=by
    rw[show i=H.length-1 by omega];simp[List.getD,BB (show H.length-1<H.length by omega)]
   have g2:(F++J).getD j 0=J.getD 0 0:=by
    rw[show j=F.length by omega];simp[List.getD,Bi]
   rw[g1,g2] at U;obtain⟨i',qb,rfl⟩:=kS hx;obtain⟨j',qc,rfl⟩:=kS hy
   have Y:i'=H.length-1∨r (H.getD i' 0) (H.getD (H.length-1) 0):=by
    by_cases h:i'=H.length-1
    .exact .inl h
    .exact .inr (xU hh (by omega) (by omega))
   have h7:j'=0∨r (J.getD 0 0) (J.getD j' 0):=by
    by_cases h:j'=0
    .exact .inl h
    .exact .inr (xU ho (by omega) (by omega))
   rcases Y with Y|Y<;>rcases h7 with h7|h7
   .rw[Y,h7];exact U
   .rw[Y];exact htr _ _ _ U h7
   .rw[h7];exact htr _ _ _ Y U
   .exact htr _ _ _ Y (htr _ _ _ U h7)
  have hB:∀y,y∈F->∀x,x∈I->r y x:=by
   intro y hy x hx;have O:0<I.length:=Dy hx;have h4:0<F.length:=Dy hy
   have hc:s<hi:=by
    by_cases h:mid<m
    .have:=(b6 h).2;omega
    .have:=(b7 h).2;omega
   obtain⟨i,j,e1,e2,e3,e4,e5,e6⟩:=hb s (by omega) hc;have U:=s3 s (by omega) hc;simp only[Bool.not_eq_false'] at U;rw[e5,e6,(ha _ (fG (by simpa using e3)) _ (fG (by simpa using e4))).1] at U
   have g1:(H++I).getD i 0=I.getD 0 0:=by
    rw[show i=H.length by omega];simp[List.getD,Bi]
   have g2:(F++J).getD j 0=F.getD (F.length-1) 0:=by
    rw[show j=F.length-1 by omega];simp[List.getD,BB (show F.length-1<F.length by omega)]
   rw[g1,g2] at U;obtain⟨i',qb,rfl⟩:=kS hx;obtain⟨j',qc,rfl⟩:=kS hy
   have Y:j'=F.length-1∨r (F.getD j' 0) (F.getD (F.length-1) 0):=by
    by_cases h:j'=F.length-1
    .exact .inl h
    .exact .inr (xU hn (by omega) (by omega))
   have h7:i'=0∨r (I.getD 0 0) (I.getD i' 0):=by
    by_cases h:i'=0
    .exact .inl h
    .exact .inr (xU hk (by omega) (by omega))
   rcases Y with Y|Y<;>rcases h7 with h7|h7
   .rw[Y,h7];exact U
   .rw[Y];exact htr _ _ _ U h7
   .rw[h7];exact htr _ _ _ Y U
   .exact htr _ _ _ Y (htr _ _ _ U h7)
  have hw:(if s<m∧m<mid+m-s then rot m (mid+m-s-s) (m-s) (mid+m-s-m) (P++(H++I++(F++J++Q))) else P++(H++I++(F++J++Q)))=P++(H++(F++(I++(J++Q)))):=by
   split
   .have O:=aGW m (mid+m-s-s) I F (P++H) (J++Q) (by omega) (by rintro rfl;simp at *;omega) (by rintro rfl;simp at *;omega) (by simp;omega);rw[show m-s=I.length by omega,show mid+m-s-m=F.length by omega];simpa using O
   .by_cases O:I=[]
    .subst O;simp
    .have h4:0<I.length:=Ca.2 O;have:F=[]:=Bt (by omega);subst this;simp
  rw[hw]
  obtain ⟨Z1,qg,hg,qh⟩:∃Z1,(if P.length<s∧s<mid then smg lt f P.length s mid (P++(H++(F++(I++(J++Q))))) else P++(H++(F++(I++(J++Q)))))=P++(Z1++(I++(J++Q)))∧Z1.Perm (H++F)∧Z1.Pairwise r:=by
   split
   .have O:=aEH f P H F (I++(J++Q)) (by omega) (by rintro rfl;simp at *;omega) (by rintro rfl;simp at *;omega) hh hn (λx hx y hy=>ha x (by simp[hx]) y (by simp[hy]));rw[show P.length+H.length=s by omega,show s+F.length=mid by omega] at O;exact O
   .refine⟨H++F,by simp,List.Perm.refl _,?_⟩;by_cases O:H=[]
    .subst O;simpa using hn
    .have h4:0<H.length:=Ca.2 O;have:F=[]:=Bt (by omega);subst this;simpa using hh
  rw[qg];have qi:(P++Z1).length=mid:=by have:=hg.length_eq;simp at this⊢;omega
  obtain ⟨Z2,qe,hz,qf⟩:∃Z2,(if mid<mid+m-s∧mid+m-s<m+(F.length+J.length) then smg lt f mid (mid+m-s) (m+(F.length+J.length)) (P++(Z1++(I++(J++Q)))) else P++(Z1++(I++(J++Q))))=P++(Z1++(Z2++Q))∧Z2.Perm (I++J)∧Z2.Pairwise r:=by
   split
   .have O:=aEH f (P++Z1) I J Q (by omega) (by rintro rfl;simp at *;omega) (by rintro rfl;simp at *;omega) hk ho (λx hx y hy=>ha x (by simp[hx]) y (by simp[hy]));rw[qi,show mid+I.length=mid+m-s by omega,show mid+m-s+J.length=m+(F.length+J.length) by omega] at O;simpa using O
   .refine⟨I++J,by simp,List.Perm.refl _,?_⟩;by_cases O:I=[]
    .subst O;simpa using ho
    .have h4:0<I.length:=Ca.2 O;have:J=[]:=Bt (by omega);subst this;simpa using hk
  refine⟨Z1++Z2,by rw[qe];simp,?_,?_⟩
  .refine(hg.append hz).trans ?_;simp only[Bw];refine List.Perm.append_left H ?_;rw[←Bw,←Bw];exact CW J List.perm_append_comm
  .refine Bp.2 ⟨qh,qf,λu hu v hv=>?_⟩;rcases Bf.1 (hg.mem_iff.1 hu) with hu|hu<;>rcases Bf.1 (hz.mem_iff.1 hv) with hv|hv
   .exact qj u hu v hv
   .exact hA u hu v hv
   .exact hB u hu v hv
   .exact qk u hu v hv
theorem aEF:∀{A B:List Int},A.Perm B->A.Pairwise r->B.Pairwise r->A=B
 | [],B,h,_,_=>(List.Perm.nil_eq h).symm ▸ rfl
 |x::A,[],h,_,_=>by have _:=htr;have:=h.length_eq;simp at this
 | x::A,y::B,h,ha,hb=>by
  obtain⟨H,I⟩:=Cx.1 ha;obtain⟨J,L⟩:=Cx.1 hb;by_cases F:x=y
  .subst F;rw[aEF ((List.perm_cons x).1 h) I L]
  .exfalso
   have O:x∈B:=by
    have:=h.mem_iff.1 (Dp (a:=x) (l:=A));rcases Ap.1 this with h|h
    .exact absurd h F
    .exact h
   have h2:y∈A:=by
    have:=h.mem_iff.2 (Dp (a:=y) (l:=B));rcases Ap.1 this with h|h
    .exact absurd h.symm F
    .exact h
   exact has _ _ (H y h2) (J x O)
end
def stb (lt:Int->Int->Bool) (l:List Int):List Int:=
 if l.length<20 then qY lt 0 l.length l else
  let l1:=qY lt 20 l.length (qY lt 0 20 l)
  if 20<l.length then smg lt 40 0 20 l.length l1 else l1
theorem aGQ (lt:Int->Int->Bool) (l:List Int):(stb lt l).length=l.length:=by
 unfold stb;split
 .rw[iD]
 .dsimp only;split
  .rw[oG,iD,iD]
  .rw[iD,iD]
theorem aLY {lt:Int->Int->Bool}{r:Int->Int->Prop} (htr:∀x y z,r x y->r y z->r x z) (has:∀x y,r x y->¬r y x) {l:List Int} (hl:l.length<=40) (hp:l.Pairwise (aDL lt r)) :
  (stb lt l).Perm l∧(stb lt l).Pairwise r:=by
 unfold stb;split
 .obtain⟨Z,H,h2,I⟩:=aC5 htr [] l [] hp;simp only[Ah,BU,Be,Ai] at H;rw[H];exact⟨h2,I⟩
 .rename_i ha;dsimp only;obtain⟨A,B,rfl,J⟩:∃A B,l=A++B∧A.length=20:=⟨l.take 20,l.drop 20,by simp,by simp;omega⟩;obtain⟨p1,p2,p3⟩:=Bp.1 hp;obtain⟨L,H,h2,I⟩:=aC5 htr [] A B p1;simp only[Ah,BU,Ai,J] at H;rw[H];have O:L.length=20:=by rw[h2.length_eq,J]
  obtain⟨U,Y,F,g3⟩:=aC5 htr L B [] p2;simp only[Be,O] at Y;rw[show(A++B).length=20+B.length by simp[J],Y];split
  .have h4:=aEH htr has 40 [] L U [] (by have:=F.length_eq;simp[J] at hl;omega) (by rintro rfl;simp at O) (by rintro rfl;have:=F.length_eq;simp at this;omega) I g3
    (λx hx y hy=>p3 x (h2.mem_iff.1 hx) y (F.mem_iff.1 hy))
   simp only[Ah,BU,Be,Ai,O,F.length_eq] at h4;obtain⟨Z,k1,k2,k3⟩:=h4;rw[k1];exact⟨k2.trans (h2.append F),k3⟩
  .have:B=[]:=Bt (by omega);subst this;have:U=[]:=List.Perm.eq_nil F;subst this;simpa using⟨by simpa using h2,I⟩
end
end Go.Proofs.YtkgeiaideklmoaaGreat
namespace Go.Vs
variable [Envs]
open Go.ChangeShapes Go.RowKit
variable {P:Program}
def bX (P:Program) (t:TypeId) {α:Type} (k:Nat) (e:α->List AV):Prop:=
 P.cellsOf t=k∧(∀a,(e a).length=k)∧∀(H:Type) (enc:TypeId×Value->H) (w:World) (sp:Nat->Bool) (fuel:Nat) (cs:List Value) (x:DataW H×List MemPlace),
  DataW.trod enc P w 0 sp true fuel t cs=some x->∃a,cs.length=k∧∀j,j<k->(cs.getD j undef).oneCell'=true∧RC (λb=>b<w.heap.size) w ((e a).getD j .junk) (cs.getD j undef)
theorem bX.int {t:TypeId}{F:IntKind} (h:P.underlying t=some (.int F)) (I:P.cellsOf t=1) :
  bX P t 1 (λn:{n:Int // (Lit.int F n).wf=true}=>[.v (.int F n.1)]):=by
 refine⟨I,λ_=>rfl,λH enc w U fuel cs x L=>?_⟩;obtain⟨n,rfl,_,J⟩:=DataW.trod_int h L;refine⟨⟨n,J⟩,rfl,λj O=>?_⟩;obtain rfl:j=0:=by omega
 exact⟨rfl,.v _⟩
theorem bX.bool {t:TypeId} (h:P.underlying t=some .bool) (F:P.cellsOf t=1):bX P t 1 (λb:Bool=>[.v (.bool b)]):=by
 refine⟨F,λ_=>rfl,λH enc w L fuel cs x I=>?_⟩;obtain⟨b,rfl,_⟩:=DataW.trod_bool h I;refine⟨b,rfl,λj J=>?_⟩;obtain rfl:j=0:=by omega
 exact⟨rfl,.v _⟩
theorem bX.string {t:TypeId} (h:P.underlying t=some .string) (F:P.cellsOf t=1):bX P t 1 (λs:{s:ByteArray // s.size<2 ^ 63}=>[.v (.string s.1)]):=by
 refine⟨F,λ_=>rfl,λH enc w O fuel cs x J=>?_⟩;obtain⟨s,rfl,_,I⟩:=DataW.trod_string h J;refine⟨⟨s,by simp only[maxLen] at I;omega⟩,rfl,λj L=>?_⟩;obtain rfl:j=0:=by omega
 exact⟨rfl,.v _⟩
theorem aBW {α:Type} (p:Nat->α->Prop):∀n,(∀i,i<n->∃a,p i a)->∃l:List α,l.length=n∧∀(i:Nat) (a:α),l[i]? = some a->p i a
 |0,_=>⟨[],rfl,by simp⟩
 | n+1,h=>by
  obtain⟨l,F,h2⟩:=aBW p n λi hi=>h i (by omega);obtain⟨a,H⟩:=h n (by omega);refine⟨l++[a],by simp[F],λi b I=>?_⟩
  all_goals grind
theorem bX.slice {t u:TypeId}{α:Type}{k:Nat}{e:α->List AV} (h:P.underlying t=some (.slice u)) (hc:P.cellsOf t=1) (hk:0<k) (he:bX P u k e) :
  bX P t 1 (λl:{l:List α // l.length<2 ^ 63}=>[.sl k (l.1.map e)]):=by
 obtain⟨g1,g2,g3⟩:=he;refine⟨hc,λ_=>rfl,λH enc w sp fuel cs x hx=>?_⟩;rcases DataW.trod_slice h hx with⟨rfl,_⟩|⟨A,len,cap,I,hq,n,rfl,rfl,rfl,_,hu,Z,hr,hb,_⟩
 .refine⟨⟨[],by simp⟩,rfl,λj F=>?_⟩;obtain rfl:j=0:=by omega
  exact⟨rfl,.sl k [] none 0 0 0 (λ_=>undef) (by simp) (by simp) (by simp) (by simp) (by simp) ⟨by simp,by decide⟩⟩
 .have hn:∀i,i<len->∃a,∃cs,w.cells? 0 (A.add (i*k)) k=some cs∧∀j,j<k->(cs.getD j undef).oneCell'=true∧RC (λb=>b<w.heap.size) w ((e a).getD j .junk) (cs.getD j undef):=by
   intro i hi;have h1:=hb i hi;rw[g1] at h1;have:i<I.length:=by omega
   rw[Ba this] at h1;obtain⟨cs,h2,h3⟩:=AY.1 h1;obtain⟨a,_,h4⟩:=g3 H enc w sp n cs _ h3;exact⟨a,cs,h2,h4⟩
  obtain⟨l,hl,hp⟩:=aBW _ len hn;have ho:len<2 ^ 63:=by simp only[maxLen] at Z;omega
  refine⟨⟨l,by omega⟩,rfl,λj F=>?_⟩;obtain rfl:j=0:=by omega
  refine⟨rfl,?_⟩;simp only[Aw]
  have L:∀i j,i<len->j<k->w.cell? ⟨A.block,A.off+(i*k+j),A.spot⟩=some ((w.cell? ⟨A.block,A.off+(i*k+j),A.spot⟩).getD undef)∧A.spot=none∧
    ((w.cell? ⟨A.block,A.off+(i*k+j),A.spot⟩).getD undef).oneCell'=true∧∃a,l[i]? = some a∧RC (λb=>b<w.heap.size) w ((e a).getD j .junk) ((w.cell? ⟨A.block,A.off+(i*k+j),A.spot⟩).getD undef):=by
   intro i j hi F;obtain⟨a,ha⟩:∃a,l[i]? = some a:=⟨l[i],by simp[show i<l.length by omega]⟩
   have U:A.spot=none:=by
    obtain⟨a0,J⟩:∃a,l[0]? = some a:=⟨l[0],by simp[show 0<l.length by omega]⟩;obtain⟨hg,h0,_⟩:=hp 0 a0 J;obtain⟨_,ht,hh⟩:=World.cells?_some h0;have:=hh 0 hk;simp only[Nat.zero_mul,Addr.add,Bj] at this;rw[Ba (by omega)] at this;unfold World.cell? at this;split at this
    .split at this
     .cases this
     .rename_i hs;simpa using hs
    .cases this
   obtain⟨cs,h2,h4⟩:=hp i a ha;obtain⟨_,h5,h6⟩:=World.cells?_some h2;have Y:=h6 j F
   have e1:(A.add (i*k)).add j=⟨A.block,A.off+(i*k+j),A.spot⟩:=by
    obtain⟨b,o,s⟩:=A
    all_goals grind [Addr.add]
   rw[e1] at Y;have hm:cs[j]? = some (cs.getD j undef):=by simp[List.getD,show j<cs.length by omega]
   rw[Y,hm];exact⟨rfl,U,(h4 j F).1,a,ha,(h4 j F).2⟩
  have hS:l≠[]->A.block<w.heap.size:=by
   intro O;have:0<len:=by rw[←hl];exact Ca.2 O
   obtain⟨a0,J⟩:∃a,l[0]? = some a:=⟨l[0],by simp[show 0<l.length by omega]⟩;obtain⟨hg,h0,_⟩:=hp 0 a0 J;have:=World.cells?_block h0 hk;simpa[Addr.add] using this
  have hf:RC (λb=>b<w.heap.size) w (.sl k (l.map e)) (.slice (some A) (l.map e).length cap):=by
   refine .sl k _ _ cap A.block A.off (λm=>(w.cell? ⟨A.block,A.off+m,A.spot⟩).getD undef) (λO=>?_) (λi j hi F=>?_) (λi j hi F=>?_) (λi j hi F=>?_) (λi hi=>?_) ⟨by simp;omega,by simp only[maxLen] at Z;omega⟩
   .have hd:l≠[]:=by rintro rfl;exact O rfl
    have:0<len:=by rw[←hl];exact Ca.2 hd
    have hs:=(L 0 0 this hk).2.1;obtain⟨b,o,s⟩:=A
    all_goals grind
   all_goals grind
  have e3:(l.map e).length=len:=by simp[hl]
  rw[e3] at hf;exact hf
theorem aHa {W F:World} (I:F.os=W.os∧F.output=W.output) (h:∀b,b<W.heap.size->F.heap[b]? = W.heap[b]?) (H:MemPlace->Prop):W.keptBut F H:=by
 refine⟨I.1,I.2,λi hi=>?_⟩
 all_goals grind
theorem aAu {H:Type}{enc:TypeId×Value->H} (O:laidOutB P=true) {W J:World} (h:∀b,b<W.heap.size->J.heap[b]? = W.heap[b]?) :
  ∀ {ts:List TypeId}{vs:List Value}{I:List (DataW H)}{p:List MemPlace},(∀t,t∈ts->P.readableRec t=true∧t<P.types.size)->DataW.TrodAll enc P W 0 (λ_=>true) true ts vs I p->(∀x,x∈p->x.block<W.heap.size)->
   DataW.TrodAll enc P J 0 (λb=>decide (b<W.heap.size)) true ts vs I p
 | [],[],[],p,_,hA,_=>hA
 | t::ts,v::vs,d::I,p,ht,⟨a,b,h1,h2,e⟩,hp=>by
  subst e;refine⟨a,b,WideElems.Trod_stays O (ht t (by simp)).1 (ht t (by simp)).2 h1 (λx F=>?_) (λx F=>?_),aAu O h (λu U=>ht u (by simp[U])) h2 (λx F=>hp x (by simp[F])),rfl⟩
  .have L:=hp x (by simp[F]);cases x with
   |cell b off=>exact cell?_of_block (h b L)
   |map b=>exact h b L
  .simpa using hp x (by simp[F])
 | [],[],_::_,p,_,hA,_=>hA.elim
 | [],_::_,_,p,_,hA,_=>hA.elim
 |_::_,[],_,p,_,hA,_=>hA.elim
 |_::_,_::_,[],p,_,hA,_=>hA.elim
theorem aKT {H:Type}{enc:TypeId×Value->H}{s:ChangeSpec}{fn:Func}{f:FuncId}{W:World}{args:Array Value}{J L:List (DataW H)}{F:List MemPlace}{tb:TypeId}
  (hl:laidOutB P=true) (hm:(fn.params.toList.all λt=>P.readableRec t&&decide (t<P.types.size))=true) (hg:fn.resultTypes=#[tb]) (hk:P.underlying tb=some .bool)
  (hW:DataW.Whole enc P fn.params.toList s.vars false W args.toList J L F) (I:s.vars=[])
  (hs:(s.fn H (J++L)).results=[.lit (.bool true)]∧(s.fn H (J++L)).args=J∧(s.fn H (J++L)).vars=[])
  (O:Env (λb=>b<W.heap.size) W) {xs:List AV} (hd:Fn P f [] xs (.v (.bool true)) []) (hh:args.size=xs.length) (hr:∀j,j<xs.length->RC (λb=>b<W.heap.size) W (xs.getD j .junk) (args.getD j undef)) :
  Calls P f args W λe Z=>∃v,e=.returned v∧s.post enc P fn false true false false W args v Z:=by
 have hn:∀t,t∈fn.params.toList->P.readableRec t=true∧t<P.types.size:=by
  grind
 have hc:=hd.2 (λb=>b<W.heap.size) W (λ_=>none) (λ_=>0) args ⟨λn b hb=>by cases n<;>simp[Hn] at hb,λn m x h1=>by cases n<;>simp[Hn] at h1,λ_ h=>h,O⟩ (by simp) hh (λj hj=>.clo (hr j hj));refine hc.mono ?_;rintro e Z ⟨v,S',ρ',κ',rfl,hpost,hv⟩;refine⟨v,rfl,?_⟩;obtain rfl:v=.bool true:=bE hv;have U:∀b,b<W.heap.size->Z.heap[b]? = W.heap[b]?:=λb hb=>hpost.old b hb (by rintro⟨j,hj,_⟩;simp at hj);obtain⟨p,q,hA,hV,Y,he,hf⟩:=hW;have ha:L=[]∧q=[]:=by rw[I] at hV;exact trodVars_none hV
 obtain⟨rfl,rfl⟩:=ha;simp only[Be] at Y;subst Y;refine⟨J,[],F,[],F,[],⟨F,[],hA,hV,by simp,he,hf⟩,?_,?_,?_,aHa hpost.out U _,λh=>by cases h⟩
 .rw[hg,hs.1];exact trodAll_mk1 (shut_bool hk _)
 .grind [aAu,DataW.TrodAll.lt]
 .rw[I,hs.2.2];rfl
theorem aE9 {t:TypeId}{α:Type}{e:α->List AV} (F:bX P t 1 e) {H:Type}{enc:TypeId×Value->H}{W:World}{v:Value}{d:DataW H}{p:List MemPlace} (I:v.cells=#[v])
  (h:DataW.Trod enc P W 0 (λ_=>true) true t v d p):∃a,RC (λb=>b<W.heap.size) W ((e a).getD 0 .junk) v:=by
 grind [bX,DataW.Trod]
theorem aMV {t:TypeId}{α:Type}{k:Nat}{e:α->List AV} (I:bX P t k e) {H:Type}{enc:TypeId×Value->H}{W:World}{cs:Array Value}{d:DataW H}{p:List MemPlace}
  (h:DataW.Trod enc P W 0 (λ_=>true) true t (.agg cs) d p):∃a,RC (λb=>b<W.heap.size) W (.agg (e a)) (.agg cs):=by
 obtain⟨n,J⟩:=h;obtain⟨a,F,h2⟩:=I.2.2 H enc W _ n _ _ J;simp only[Value.cells,BO] at F;refine⟨a,.agg _ _ (by rw[I.2.1,F]) λj L=>?_⟩
 all_goals grind [Value.cells,Array.getD_eq_getD_getElem?,bX]
end Go.Vs
