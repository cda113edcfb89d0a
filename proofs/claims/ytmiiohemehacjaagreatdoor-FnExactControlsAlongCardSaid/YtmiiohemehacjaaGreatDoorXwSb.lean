/- Symmetric merging of two sorted lists gives the one sorted list; the stable sort of at most forty. -/
set_option linter.all false
set_option maxHeartbeats 8000000
namespace Go.Proofs.YtmiiohemehacjaaGreatDoor
section
def swp (l:List Int) (i j:Nat):List Int:=(l.set i (l.getD j 0)).set j (l.getD i 0)
theorem dK (l:List Int) (i j:Nat):(swp l i j).length=l.length:=by simp[swp]
theorem aBV (P M Q:List Int) (x y:Int):swp (P++x::(M++y::Q)) P.length (P.length+(M.length+1))=P++y::(M++x::Q):=by
 have F:(P++x::(M++y::Q)).getD P.length 0=x:=by simp[List.getD]
 have h2:(P++x::(M++y::Q)).getD (P.length+(M.length+1)) 0=y:=by
  simp[List.getD,List.getElem?_append_right]
 rw[swp,F,h2,List.set_append_right _ _ (Nat.le_refl _),Nat.sub_self,List.set_cons_zero,List.set_append_right _ _ (by omega)];rw[show P.length+(M.length+1)-P.length=M.length+1 by omega,List.set_cons_succ,List.set_append_right _ _ (Nat.le_refl _),Nat.sub_self,List.set_cons_zero]
theorem aFf (l:List Int) {i j:Nat} (h:i≠j):swp l i j=swp l j i:=by rw[swp,swp,List.set_comm _ _ h]
/-! ## insertion -/
def wY (lt:Int->Int->Bool) (a:Nat):Nat->List Int->List Int
 |0,l=>l
 |j+1,l=>if a<j+1∧lt (l.getD (j+1) 0) (l.getD j 0)=true then wY lt a j (swp l (j+1) j) else l
theorem xR (lt:Int->Int->Bool) (a:Nat):∀(j:Nat) (l:List Int),(wY lt a j l).length=l.length
 |0,l=>rfl
 | j+1,l=>by
  rw[wY];split
  .rw[xR lt a j,dK]
  .rfl
theorem aDX (lt:Int->Int->Bool) (a:Nat) (l:List Int):wY lt a a l=l:=by
 cases a with
 |zero=>rfl
 |succ a=>rw[wY,if_neg (by omega)]
def wK (lt:Int->Int->Bool) (a:Nat):Nat->Nat->List Int->List Int
 |0,_,l=>l
 |n+1,i,l=>wK lt a n (i+1) (wY lt a i l)
theorem aBE (lt:Int->Int->Bool) (a:Nat):∀(n i:Nat) (l:List Int),(wK lt a n i l).length=l.length
 |0,_,l=>rfl
 |n+1,i,l=>by rw[wK,aBE lt a n,xR]
def qB (lt:Int->Int->Bool) (a b:Nat) (l:List Int):List Int:=wK lt a (b-(a+1)) (a+1) l
theorem gK (lt:Int->Int->Bool) (a b:Nat) (l:List Int):(qB lt a b l).length=l.length:=aBE ..
theorem aIa (lt:Int->Int->Bool) (P:List Int):∀(n:Nat) (S:List Int) (x:Int) (Q:List Int),S.length=n->
  ∃F H,S=F++H∧wY lt P.length (P.length+n) (P++(S++x::Q))=P++(F++x::(H++Q))∧(∀e,e∈H->lt x e=true)∧∀e,F.getLast? = some e->lt x e=false
 | 0,S,x,Q,h=>by
  obtain rfl:=List.eq_nil_of_length_eq_zero h;exact⟨[],[],rfl,by rw[Nat.add_zero,aDX];rfl,by simp,by simp⟩
 | n+1,S,x,Q,h=>by
  rcases List.eq_nil_or_concat S with rfl|⟨S',e,rfl⟩
  .simp at h
  .simp only[List.concat_eq_append] at h⊢;have J:S'.length=n:=by simpa using h
   have Y:(P++((S'++[e])++x::Q)).getD (P.length+n+1) 0=x:=by
    rw[←J];simp[List.getD,List.getElem?_append_right,Nat.add_assoc]
   have L:(P++((S'++[e])++x::Q)).getD (P.length+n) 0=e:=by
    rw[←J];simp[List.getD,List.getElem?_append_right]
   rw[←Nat.add_assoc,wY,Y,L];cases hlt:lt x e
   .rw[if_neg (by simp)]
    exact ⟨S'++[e],[],by simp,by simp,by simp,λe' U=>by
      rw[List.getLast?_concat] at U;obtain rfl:=Option.some.inj U;exact hlt⟩
   .rw[if_pos ⟨by omega,rfl⟩]
    have O:swp (P++((S'++[e])++x::Q)) (P.length+n+1) (P.length+n)=P++(S'++x::(e::Q)):=by
     rw[aFf _ (by omega)];have:=aBV (P++S') [] Q e x;simp only[List.length_append,J,List.length_nil,Nat.zero_add,List.nil_append,←Nat.add_assoc] at this;simpa using this
    rw[O];obtain⟨F,H,Z,h2,h3,h4⟩:=aIa lt P n S' x (e::Q) J;refine⟨F,H++[e],by rw[Z];simp,by rw[h2];simp,λz I=>?_,h4⟩;rcases List.mem_append.1 I with I|I
    .exact h3 z I
    .obtain rfl:=List.mem_singleton.1 I;exact hlt
def aDB (lt:Int->Int->Bool) (r:Int->Int->Prop) (e x:Int):Prop:=(lt x e=true↔r x e)∧(r e x∨r x e)
section
variable {lt:Int->Int->Bool}{r:Int->Int->Prop} (htr:∀x y z,r x y->r y z->r x z)
include htr
theorem aKB (P:List Int) {S:List Int}{x:Int} (Q:List Int) (hs:S.Pairwise r) (ha:∀e,e∈S->aDB lt r e x) :
  ∃Z,wY lt P.length (P.length+S.length) (P++(S++x::Q))=P++(Z++Q)∧Z.Perm (S++[x])∧Z.Pairwise r:=by
 obtain⟨H,I,rfl,h2,h3,h4⟩:=aIa lt P _ S x Q rfl;refine⟨H++x::I,by rw[h2];simp,?_,?_⟩
 .have:(H++x::I).Perm (H++(I++[x])):=List.Perm.append_left H (List.perm_append_singleton x I).symm;simpa using this
 .obtain⟨p1,p2,p3⟩:=List.pairwise_append.1 hs;have hb:∀e,e∈I->r x e:=λe F=>(ha e (by simp[F])).1.1 (h3 e F)
  have Y:∀e,e∈H->r e x:=by
   intro e F
   obtain ⟨l,O⟩:∃l,H.getLast? = some l:=by
    cases h:H.getLast? with
    |none=>rw[List.getLast?_eq_none_iff] at h;rw[h] at F;cases F
    |some l=>exact⟨l,rfl⟩
   have U:l∈H:=List.mem_of_getLast? O;have J:=ha l (by simp[U])
   have L:r l x:=by
    rcases J.2 with h|h
    .exact h
    .have:=J.1.2 h;rw[h4 l O] at this;cases this
   obtain⟨S0,rfl⟩:=List.getLast?_eq_some_iff.1 O;rcases List.mem_append.1 F with F|F
   .exact htr _ _ _ ((List.pairwise_append.1 p1).2.2 e F l (by simp)) L
   .obtain rfl:=List.mem_singleton.1 F;exact L
  refine List.pairwise_append.2 ⟨p1,List.pairwise_cons.2 ⟨hb,p2⟩,λe F z hz=>?_⟩;rcases List.mem_cons.1 hz with rfl|hz
  .exact Y e F
  .exact p3 e F z hz
theorem aFV (P:List Int):∀(X S Q:List Int),S.Pairwise r->(∀e,e∈S->∀x,x∈X->aDB lt r e x)->X.Pairwise (aDB lt r)->
  ∃Z,wK lt P.length X.length (P.length+S.length) (P++(S++(X++Q)))=P++(Z++Q)∧Z.Perm (S++X)∧Z.Pairwise r
 | [],S,Q,hs,_,_=>⟨S,by simp[wK],by simp,hs⟩
 | x::X,S,Q,hs,ha,hp=>by
  obtain⟨L,U,h2,Y⟩:=aKB htr P (X++Q) hs (λe H=>ha e H x (by simp));have F:L.length=S.length+1:=by simpa using h2.length_eq
  obtain⟨I,J⟩:=List.pairwise_cons.1 hp
  obtain ⟨Z,h4,h5,h6⟩:=aFV P X L Q Y (λe H y O=>by
    rcases List.mem_append.1 (h2.mem_iff.1 H) with h|h
    . exact ha e h y (by simp[O])
    . obtain rfl:=List.mem_singleton.1 h;exact I y O) J
  refine⟨Z,?_,?_,h6⟩
  .simp only[List.length_cons,wK,List.cons_append];rw[U,←h4,F,Nat.add_assoc]
  .refine h5.trans ((List.Perm.append_right X h2).trans ?_);simp
theorem aCS (P X Q:List Int) (O:X.Pairwise (aDB lt r)):∃Z,qB lt P.length (P.length+X.length) (P++(X++Q))=P++(Z++Q)∧Z.Perm X∧Z.Pairwise r:=by
 cases X with
 |nil=>exact⟨[],by simp[qB,show P.length-(P.length+1)=0 by omega,wK],by simp,by simp⟩
 | cons x X =>
  obtain⟨F,H⟩:=List.pairwise_cons.1 O;obtain⟨Z,I,h2,J⟩:=aFV htr P X [x] Q (by simp) (λe L y U=>by obtain rfl:=List.mem_singleton.1 L;exact F y U) H;refine⟨Z,?_,by simpa using h2,J⟩;rw[qB,show P.length+(x::X).length-(P.length+1)=X.length by simp;omega];simpa using I
end
/-! ## searching -/
def bs (p:Nat->Bool) (i j:Nat):Nat:=if h:i<j then(if p ((i+j)/2)=true then bs p ((i+j)/2+1) j else bs p i ((i+j)/2)) else i
termination_by j-i
theorem uA (p:Nat->Bool) {i j:Nat} (h:¬i<j):bs p i j=i:=by rw[bs,dif_neg h]
theorem aBr (p:Nat->Bool) {i j:Nat} (h:i<j) (F:p ((i+j)/2)=true):bs p i j=bs p ((i+j)/2+1) j:=by rw[bs,dif_pos h,if_pos F]
theorem aEe (p:Nat->Bool) {i j:Nat} (h:i<j) (F:p ((i+j)/2)=false):bs p i j=bs p i ((i+j)/2):=by rw[bs,dif_pos h,if_neg (by simp[F])]
theorem aGk (p:Nat->Bool):∀(n i j:Nat),j-i<=n->i<=j->(∀c d,i<=c->c<=d->d<j->p d=true->p c=true)->
  (i<=bs p i j∧bs p i j<=j)∧(∀c,i<=c->c<bs p i j->p c=true)∧∀c,bs p i j<=c->c<j->p c=false
 | 0,i,j,h,hij,hm=>by
  rw[uA p (by omega)];exact⟨by omega,λc J h2=>by omega,λc J h2=>by omega⟩
 | n+1,i,j,h,hij,hm=>by
  by_cases I:i<j
  .cases hp:p ((i+j)/2)
   .rw[aEe p I hp];obtain⟨J,h2,L⟩:=aGk p n i ((i+j)/2) (by omega) (by omega) λc d a b e=>hm c d a b (by omega);refine⟨by omega,h2,λc O H=>?_⟩;by_cases F:c<(i+j)/2
    .exact L c O F
    .cases hpc:p c with
     |false=>rfl
     |true=>rw[hm ((i+j)/2) c (by omega) (by omega) H hpc] at hp;cases hp
   .rw[aBr p I hp];obtain⟨J,h2,L⟩:=aGk p n ((i+j)/2+1) j (by omega) (by omega) λc d a b e=>hm c d (by omega) b e;refine⟨by omega,λc O H=>?_,L⟩;by_cases F:c<=(i+j)/2
    .exact hm c _ O F (by omega) hp
    .exact h2 c (by omega) H
  .rw[uA p I];exact⟨by omega,λc J h2=>by omega,λc J h2=>by omega⟩
/-! ## moving -/
def mvU:Nat->Nat->List Int->List Int
 |0,_,l=>l
 |n+1,k,l=>mvU n (k+1) (swp l k (k+1))
def mvD:Nat->Nat->List Int->List Int
 |0,_,l=>l
 |n+1,k,l=>mvD n (k-1) (swp l k (k-1))
def swR:Nat->Nat->Nat->List Int->List Int
 |0,_,_,l=>l
 |n+1,a,b,l=>swR n (a+1) (b+1) (swp l a b)
def rot (m:Nat):Nat->Nat->Nat->List Int->List Int
 |0,_,_,l=>l
 |f+1,i,j,l=>if i=j then swR i (m-i) m l else if j<i then rot m f (i-j) j (swR j (m-i) m l) else rot m f i (j-i) (swR i (m-i) (m+j-i) l)
theorem aCI:∀(n k:Nat) (l:List Int),(mvU n k l).length=l.length
 |0,_,_=>rfl
 |n+1,k,l=>by rw[mvU,aCI n,dK]
theorem aCJ:∀(n k:Nat) (l:List Int),(mvD n k l).length=l.length
 |0,_,_=>rfl
 |n+1,k,l=>by rw[mvD,aCJ n,dK]
theorem jO:∀(n a b:Nat) (l:List Int),(swR n a b l).length=l.length
 |0,_,_,_=>rfl
 |n+1,a,b,l=>by rw[swR,jO n,dK]
theorem nM (m:Nat):∀(f i j:Nat) (l:List Int),(rot m f i j l).length=l.length
 |0,_,_,_=>rfl
 | f+1,i,j,l=>by
  rw[rot];split
  .rw[jO]
  .split
   .rw[nM m f,jO]
   .rw[nM m f,jO]
theorem aKj:∀(R P Q:List Int) (x:Int),mvU R.length P.length (P++x::(R++Q))=P++(R++x::Q)
 | [],P,Q,x=>rfl
 | y::R,P,Q,x=>by
  have:=aBV P [] (R++Q) x y;simp only[List.length_nil,List.nil_append,Nat.zero_add] at this;simp only[List.length_cons,mvU,List.cons_append];rw[this];have h2:=aKj R (P++[y]) Q x;simp only[List.length_append,List.length_cons,List.length_nil,Nat.zero_add,List.append_assoc,List.cons_append,List.nil_append] at h2;exact h2
theorem aKl (P:List Int):∀(n:Nat) (L Q:List Int) (y:Int),L.length=n->mvD n (P.length+n) (P++(L++y::Q))=P++(y::(L++Q))
 | 0,L,Q,y,h=>by
  obtain rfl:=List.eq_nil_of_length_eq_zero h;rfl
 | n+1,L,Q,y,h=>by
  rcases List.eq_nil_or_concat L with rfl|⟨L',e,rfl⟩
  .simp at h
  .simp only[List.concat_eq_append] at h⊢;have H:L'.length=n:=by simpa using h
   have F:swp (P++((L'++[e])++y::Q)) (P.length+(n+1)) (P.length+n)=P++(L'++y::(e::Q)):=by
    rw[aFf _ (by omega)];have:=aBV (P++L') [] Q e y;simp only[List.length_append,H,List.length_nil,Nat.zero_add,List.nil_append] at this;simpa[Nat.add_assoc] using this
   rw[mvD,show P.length+(n+1)-1=P.length+n by omega,F,aKl P n L' (e::Q) y H];simp
theorem aEt:∀(X Y P M Q:List Int),X.length=Y.length->swR X.length P.length (P.length+X.length+M.length) (P++(X++(M++(Y++Q))))=P++(Y++(M++(X++Q)))
 | [],Y,P,M,Q,h=>by
  obtain rfl:=List.eq_nil_of_length_eq_zero h.symm;rfl
 |x::X,[],P,M,Q,h=>by simp at h
 | x::X,y::Y,P,M,Q,h=>by
  have H:X.length=Y.length:=by simpa using h
  have F:=aBV P (X++M) (Y++Q) x y;simp only[List.length_append,List.append_assoc] at F;simp only[List.length_cons,swR,List.cons_append];rw[show P.length+(X.length+1)+M.length=P.length+(X.length+M.length+1) by omega,F];have h2:=aEt X Y (P++[y]) (M++[x]) Q H;simp only[List.length_append,List.length_cons,List.length_nil,Nat.zero_add,List.append_assoc,List.cons_append,List.nil_append] at h2;rw[show P.length+(X.length+M.length+1)+1=P.length+1+X.length+(M.length+1) by omega,h2]
theorem aGN (m:Nat):∀(f:Nat) (X Y P Q:List Int),X.length+Y.length<=f->X≠[]->Y≠[]->m=P.length+X.length->
  rot m f X.length Y.length (P++(X++(Y++Q)))=P++(Y++(X++Q))
 | 0,X,Y,P,Q,hf,hx,_,_=>by
  exact absurd (List.eq_nil_of_length_eq_zero (by omega:X.length=0)) hx
 | f+1,X,Y,P,Q,hf,hx,hy,hm=>by
  have hc:0<X.length:=List.length_pos_iff.2 hx;have hd:0<Y.length:=List.length_pos_iff.2 hy;rw[rot];split
  .rename_i he;have:=aEt X Y P [] Q he;simp only[List.length_nil,Nat.add_zero,List.nil_append] at this;rw[show m-X.length=P.length by omega,hm];exact this
  .rename_i Z;split
   .rename_i U;obtain⟨F,H,rfl,L⟩:∃F H,X=F++H∧F.length=Y.length:=⟨X.take Y.length,X.drop Y.length,by simp,by simp;omega⟩;have h2:(F++H).length=F.length+H.length:=by simp
    have:=aEt F Y P H Q L;have ha:H≠[]:=by rintro rfl;simp at U;omega
    rw[show m-(F++H).length=P.length by omega,←L,hm,h2,List.append_assoc F H,←Nat.add_assoc,this,show F.length+H.length-F.length=H.length by omega];have O:=aGN (P.length+F.length+H.length) f H F (P++Y) Q (by omega) ha (by rintro rfl;simp at L;omega) (by simp;omega);simp only[List.append_assoc] at O;rw[O,List.append_assoc]
   .obtain⟨I,J,rfl,L⟩:∃I J,Y=I++J∧J.length=X.length:=⟨Y.take (Y.length-X.length),Y.drop (Y.length-X.length),by simp,by simp;omega⟩;have h2:(I++J).length=I.length+J.length:=by simp
    have:=aEt X J P I Q L.symm;have hb:I≠[]:=by rintro rfl;simp at Z;omega
    rw[h2,L,show m-X.length=P.length by omega,show m+(I.length+X.length)-X.length=P.length+X.length+I.length by omega,List.append_assoc I J,this,show I.length+X.length-X.length=I.length by omega];have O:=aGN m f J I P (X++Q) (by omega) (by rintro rfl;simp at L;omega) hb (by omega);rw[L] at O;rw[O]
    try simp
/-! ## merging -/
def smg (lt:Int->Int->Bool):Nat->Nat->Nat->Nat->List Int->List Int
 |0,_,_,_,l=>l
 | f+1,a,m,b,l =>
  if m-a=1 then mvU (bs (λh=>lt (l.getD h 0) (l.getD a 0)) m b-1-a) a l
  else if b-m=1 then mvD (m-bs (λh=>!lt (l.getD m 0) (l.getD h 0)) a m) m l
  else
   let mid:=(a+b)/2
   let s:=bs (λc=>!lt (l.getD (mid+m-1-c) 0) (l.getD c 0)) (if mid<m then mid+m-b else a) (if mid<m then mid else m)
   let l1:=if s<m∧m<mid+m-s then rot m (mid+m-s-s) (m-s) (mid+m-s-m) l else l
   let l2:=if a<s∧s<mid then smg lt f a s mid l1 else l1
   if mid<mid+m-s∧mid+m-s<b then smg lt f mid (mid+m-s) b l2 else l2
theorem nI (lt:Int->Int->Bool):∀(f a m b:Nat) (l:List Int),(smg lt f a m b l).length=l.length
 |0,_,_,_,_=>rfl
 | f+1,a,m,b,l=>by
  rw[smg];split
  .rw[aCI]
  .split
   .rw[aCJ]
   .dsimp only
    repeat' split
    all_goals simp only[nI lt f,nM]
theorem get_at {P L R:List Int}{i:Nat} (hi:i<L.length):(P++(L++R)).getD (P.length+i) 0=L.getD i 0:=by
 simp[List.getD,List.getElem?_append_right,List.getElem?_append_left hi]
theorem xL {r:Int->Int->Prop}{L:List Int} (h:L.Pairwise r) {i j:Nat} (F:i<j) (H:j<L.length):r (L.getD i 0) (L.getD j 0):=by
 have:=List.pairwise_iff_getElem.1 h i j (by omega) H F;simpa[List.getD,H,show i<L.length by omega] using this
theorem eQ {L:List Int}{i:Nat} (hi:i<L.length):L.getD i 0∈L:=by simp[List.getD,hi]
theorem kD {L:List Int}{x:Int} (h:x∈L):∃i,i<L.length∧L.getD i 0=x:=by
 obtain⟨i,hi,rfl⟩:=List.mem_iff_getElem.1 h;exact⟨i,hi,by simp[List.getD,hi]⟩
section
variable {lt:Int->Int->Bool}{r:Int->Int->Prop} (htr:∀x y z,r x y->r y z->r x z) (has:∀x y,r x y->¬r y x)
include has
theorem vV {e x:Int} (h:aDB lt r e x):lt x e=false↔r e x:=by
 constructor
 .intro F;rcases h.2 with h2|h2
  .exact h2
  .rw[h.1.2 h2] at F;cases F
 .intro H;cases hl:lt x e with
  |false=>rfl
  |true=>exact absurd (h.1.1 hl) (has _ _ H)
include htr
theorem aLx (P R Q:List Int) (x:Int) (hR:R.Pairwise r) (ha:∀y,y∈R->aDB lt r x y) :
  ∃Z,mvU (bs (λh=>lt ((P++(x::(R++Q))).getD h 0) ((P++(x::(R++Q))).getD P.length 0)) (P.length+1) (P.length+1+R.length)-1-P.length) P.length (P++(x::(R++Q)))=P++(Z++Q)∧Z.Perm (x::R)∧Z.Pairwise r:=by
 have ex:(P++(x::(R++Q))).getD P.length 0=x:=by simp[List.getD]
 have O:∀i,i<R.length->(P++(x::(R++Q))).getD (P.length+1+i) 0=R.getD i 0:=by
  intro i hi;have:=get_at (P:=P++[x]) (R:=Q) hi;simpa using this
 rw[ex];have F:∀i,i<R.length->(lt (R.getD i 0) x=true↔r (R.getD i 0) x):=λi hi=>(ha _ (eQ hi)).1
 obtain ⟨h1,h2,h3⟩:=aGk (λh=>lt ((P++(x::(R++Q))).getD h 0) x) _ (P.length+1) (P.length+1+R.length) (Nat.le_refl _) (by omega) (by
   intro c d hc hg hd J;obtain⟨i,rfl⟩:∃i,c=P.length+1+i:=⟨c-(P.length+1),by omega⟩;obtain⟨j,rfl⟩:∃j,d=P.length+1+j:=⟨d-(P.length+1),by omega⟩
   try simp only at J⊢
   rw[O j (by omega)] at J;rw[O i (by omega)];by_cases Y:i=j
   . subst Y;exact J
   . exact(F i (by omega)).2 (htr _ _ _ (xL hR (by omega) (by omega)) ((F j (by omega)).1 J)))
 generalize bs (λh=>lt ((P++(x::(R++Q))).getD h 0) x) (P.length+1) (P.length+1+R.length)=s at *
 obtain⟨k,rfl⟩:∃k,s=P.length+1+k:=⟨s-(P.length+1),by omega⟩;have hk:k<=R.length:=by omega
 have U:R=R.take k++R.drop k:=(List.take_append_drop k R).symm;have H:(R.take k).length=k:=by simp;omega
 refine⟨R.take k++x::R.drop k,?_,?_,?_⟩
 .have:=aKj (R.take k) P (R.drop k++Q) x;rw[H,←List.append_assoc,List.take_append_drop] at this;rw[show P.length+1+k-1-P.length=k by omega,this];simp
 .have h4:(R.take k++x::R.drop k).Perm (x::(R.take k++R.drop k)):=List.perm_middle;rw[List.take_append_drop] at h4;exact h4
 .have J:=hR;rw[U] at J;obtain⟨p1,p2,p3⟩:=List.pairwise_append.1 J
  have hb:∀e,e∈R.take k->r e x:=by
   intro e L;obtain⟨i,hi,rfl⟩:=kD L;rw[H] at hi;have I:=h2 (P.length+1+i) (by omega) (by omega)
   try simp only at I
   rw[O i (by omega)] at I;have:(R.take k).getD i 0=R.getD i 0:=by simp[List.getD,List.getElem?_take,hi]
   rw[this];exact(F i (by omega)).1 I
  have hf:∀e,e∈R.drop k->r x e:=by
   intro e L;obtain⟨i,hi,rfl⟩:=kD L;simp only[List.length_drop] at hi;have I:=h3 (P.length+1+(k+i)) (by omega) (by omega)
   try simp only at I
   rw[O (k+i) (by omega)] at I;have:(R.drop k).getD i 0=R.getD (k+i) 0:=by simp[List.getD,List.getElem?_drop]
   rw[this];exact(vV has (ha _ (eQ (by omega)))).1 I
  refine List.pairwise_append.2 ⟨p1,List.pairwise_cons.2 ⟨hf,p2⟩,λe L z hz=>?_⟩;rcases List.mem_cons.1 hz with rfl|hz
  .exact hb e L
  .exact p3 e L z hz
theorem aJR (P L Q:List Int) (y:Int) (hL:L.Pairwise r) (ha:∀x,x∈L->aDB lt r x y) :
  ∃Z,mvD (P.length+L.length-bs (λh=>!lt ((P++(L++(y::Q))).getD (P.length+L.length) 0) ((P++(L++(y::Q))).getD h 0)) P.length (P.length+L.length)) (P.length+L.length) (P++(L++(y::Q)))=P++(Z++Q)∧Z.Perm (L++[y])∧Z.Pairwise r:=by
 have ey:(P++(L++(y::Q))).getD (P.length+L.length) 0=y:=by
  simp[List.getD,List.getElem?_append_right]
 have Y:∀i,i<L.length->(P++(L++(y::Q))).getD (P.length+i) 0=L.getD i 0:=λi hi=>get_at hi;rw[ey];have F:∀i,i<L.length->(lt y (L.getD i 0)=false↔r (L.getD i 0) y):=λi hi=>vV has (ha _ (eQ hi))
 obtain ⟨h1,h2,h3⟩:=aGk (λh=>!lt y ((P++(L++(y::Q))).getD h 0)) _ P.length (P.length+L.length) (Nat.le_refl _) (by omega) (by
   intro c d hc hj hd O;obtain⟨i,rfl⟩:∃i,c=P.length+i:=⟨c-P.length,by omega⟩;obtain⟨j,rfl⟩:∃j,d=P.length+j:=⟨d-P.length,by omega⟩;simp only[Bool.not_eq_true'] at O⊢;rw[Y j (by omega)] at O;rw[Y i (by omega)];by_cases hf:i=j
   . subst hf;exact O
   . exact(F i (by omega)).2 (htr _ _ _ (xL hL (by omega) (by omega)) ((F j (by omega)).1 O)))
 generalize bs (λh=>!lt y ((P++(L++(y::Q))).getD h 0)) P.length (P.length+L.length)=s at *
 obtain⟨k,rfl⟩:∃k,s=P.length+k:=⟨s-P.length,by omega⟩;have hk:k<=L.length:=by omega
 have hb:L=L.take k++L.drop k:=(List.take_append_drop k L).symm;have H:(L.take k).length=k:=by simp;omega
 have J:(L.drop k).length=L.length-k:=by simp
 refine⟨L.take k++y::L.drop k,?_,?_,?_⟩
 .have:=aKl (P++L.take k) (L.length-k) (L.drop k) Q y J;simp only[List.length_append,H,List.append_assoc] at this;rw[←List.append_assoc (L.take k),List.take_append_drop,show P.length+k+(L.length-k)=P.length+L.length by omega] at this;rw[show P.length+L.length-(P.length+k)=L.length-k by omega,this];simp
 .have h4:(L.take k++y::L.drop k).Perm (y::(L.take k++L.drop k)):=List.perm_middle;rw[List.take_append_drop] at h4;exact h4.trans (List.perm_append_singleton y L).symm
 .have O:=hL;rw[hb] at O;obtain⟨p1,p2,p3⟩:=List.pairwise_append.1 O
  have hg:∀e,e∈L.take k->r e y:=by
   intro e U;obtain⟨i,hi,rfl⟩:=kD U;rw[H] at hi;have I:=h2 (P.length+i) (by omega) (by omega);simp only[Bool.not_eq_true'] at I;rw[Y i (by omega)] at I;have:(L.take k).getD i 0=L.getD i 0:=by simp[List.getD,List.getElem?_take,hi]
   rw[this];exact(F i (by omega)).1 I
  have hh:∀e,e∈L.drop k->r y e:=by
   intro e U;obtain⟨i,hi,rfl⟩:=kD U;simp only[List.length_drop] at hi;have I:=h3 (P.length+(k+i)) (by omega) (by omega);simp only[Bool.not_eq_false'] at I;rw[Y (k+i) (by omega)] at I;have:(L.drop k).getD i 0=L.getD (k+i) 0:=by simp[List.getD,List.getElem?_drop]
   rw[this];exact(ha _ (eQ (by omega))).1.1 I
  refine List.pairwise_append.2 ⟨p1,List.pairwise_cons.2 ⟨hh,p2⟩,λe U z hz=>?_⟩;rcases List.mem_cons.1 hz with rfl|hz
  .exact hg e U
  .exact p3 e U z hz
end
end
section
section
variable {lt:Int->Int->Bool}{r:Int->Int->Prop} (htr:∀x y z,r x y->r y z->r x z) (has:∀x y,r x y->¬r y x)
include htr has
theorem aEw:∀(f:Nat) (P L R Q:List Int),L.length+R.length<=f->L≠[]->R≠[]->L.Pairwise r->R.Pairwise r->(∀x,x∈L->∀y,y∈R->aDB lt r x y)->
  ∃Z,smg lt f P.length (P.length+L.length) (P.length+L.length+R.length) (P++(L++(R++Q)))=P++(Z++Q)∧Z.Perm (L++R)∧Z.Pairwise r
 |0,P,L,R,Q,hf,hl,_,_,_,_=>absurd (List.eq_nil_of_length_eq_zero (by omega:L.length=0)) hl
 | f+1,P,L,R,Q,hf,hl,hr,hL,hR,ha=>by
  have qq:0<L.length:=List.length_pos_iff.2 hl;have qs:0<R.length:=List.length_pos_iff.2 hr;rw[smg];by_cases h1:L.length=1
  .rw[if_pos (by omega)];obtain⟨x,rfl⟩:=List.length_eq_one_iff.1 h1;have:=aLx htr has P R Q x hR (λy hy=>ha x (by simp) y hy);simpa using this
  rw[if_neg (by omega)];by_cases h2:R.length=1
  .rw[if_pos (by omega)];obtain⟨y,rfl⟩:=List.length_eq_one_iff.1 h2;have:=aJR htr has P L Q y hL (λx hx=>ha x hx y (by simp));simpa using this
  rw[if_neg (by omega)];dsimp only;have eL:∀i,i<L.length->(P++(L++(R++Q))).getD (P.length+i) 0=L.getD i 0:=λi hi=>get_at hi
  have eR:∀j,j<R.length->(P++(L++(R++Q))).getD (P.length+L.length+j) 0=R.getD j 0:=by
   intro j hj;have:=get_at (P:=P++L) (R:=Q) hj;simpa using this
  generalize qk:(P.length+(P.length+L.length+R.length))/2=mid;have qr:2*mid<=P.length+(P.length+L.length+R.length)∧P.length+(P.length+L.length+R.length)<=2*mid+1:=by omega
  generalize hm:P.length+L.length=m at *
  generalize ht:(if mid<m then mid+m-(m+R.length) else P.length)=lo;generalize hs:(if mid<m then mid else m)=hi
  have qc:P.length<=lo∧lo<=hi∧hi<=m∧hi<=mid∧mid+m-lo<=m+R.length∧(mid<m->lo=mid-R.length∧hi=mid)∧(¬mid<m->lo=P.length∧hi=m):=by
   by_cases h:mid<m
   .rw[if_pos h] at ht hs;omega
   .rw[if_neg h] at ht hs;omega
  obtain⟨b1,b2,b3,b4,b5,b6,b7⟩:=qc
  have hb:∀c,lo<=c->c<hi->∃i j,c=P.length+i∧mid+m-1-c=m+j∧i<L.length∧j<R.length∧(P++(L++(R++Q))).getD c 0=L.getD i 0∧(P++(L++(R++Q))).getD (mid+m-1-c) 0=R.getD j 0:=by
   intro c O h4;refine⟨c-P.length,mid+m-1-c-m,by omega,by omega,by omega,by omega,?_,?_⟩
   .rw[←eL _ (by omega)];congr 1;omega
   .rw[←eR _ (by omega)];congr 1;omega
  have he:∀c d,lo<=c->c<=d->d<hi->(λc=>!lt ((P++(L++(R++Q))).getD (mid+m-1-c) 0) ((P++(L++(R++Q))).getD c 0)) d=true->(λc=>!lt ((P++(L++(R++Q))).getD (mid+m-1-c) 0) ((P++(L++(R++Q))).getD c 0)) c=true:=by
   intro c d O h4 U hp;obtain⟨i,j,e1,e2,e3,e4,e5,e6⟩:=hb c O (by omega);obtain⟨i',j',ql,qm,hq,h0,h8,h9⟩:=hb d (by omega) U;simp only[Bool.not_eq_true'] at hp⊢;rw[h8,h9,vV has (ha _ (eQ hq) _ (eQ h0))] at hp;rw[e5,e6,vV has (ha _ (eQ e3) _ (eQ e4))];by_cases qp:c=d
   .have:i=i':=by omega
    have:j=j':=by omega
    subst_vars;assumption
   .exact htr _ _ _ (htr _ _ _ (xL hL (by omega:i<i') hq) hp) (xL hR (by omega:j'<j) e4)
  obtain⟨s1,s2,s3⟩:=aGk (λc=>!lt ((P++(L++(R++Q))).getD (mid+m-1-c) 0) ((P++(L++(R++Q))).getD c 0)) _ lo hi (Nat.le_refl _) b2 he;generalize bs (λc=>!lt ((P++(L++(R++Q))).getD (mid+m-1-c) 0) ((P++(L++(R++Q))).getD c 0)) lo hi=s at *
  obtain⟨H,I,rfl,qn⟩:∃H I,L=H++I∧H.length=s-P.length:=⟨L.take (s-P.length),L.drop (s-P.length),by simp,by simp;omega⟩;obtain⟨F,J,rfl,qo⟩:∃F J,R=F++J∧F.length=mid-s:=⟨R.take (mid-s),R.drop (mid-s),by simp,by simp;omega⟩;simp only[List.length_append] at *
  obtain⟨hh,hk,qi⟩:=List.pairwise_append.1 hL;obtain⟨hn,ho,qj⟩:=List.pairwise_append.1 hR
  have hA:∀x,x∈H->∀y,y∈J->r x y:=by
   intro x hx y hy;have O:0<H.length:=List.length_pos_of_mem hx;have h4:0<J.length:=List.length_pos_of_mem hy
   have hd:lo<=s-1:=by
    by_cases h:mid<m
    .have:=(b6 h).1;omega
    .have:=(b7 h).1;omega
   obtain⟨i,j,e1,e2,e3,e4,e5,e6⟩:=hb (s-1) hd (by omega);have U:=s2 (s-1) hd (by omega);simp only[Bool.not_eq_true'] at U;rw[e5,e6,vV has (ha _ (eQ (by simpa using e3)) _ (eQ (by simpa using e4)))] at U
   have g1:(H++I).getD i 0=H.getD (H.length-1) 0:=by
    rw[show i=H.length-1 by omega];simp[List.getD,List.getElem?_append_left (show H.length-1<H.length by omega)]
   have g2:(F++J).getD j 0=J.getD 0 0:=by
    rw[show j=F.length by omega];simp[List.getD,List.getElem?_append_right]
   rw[g1,g2] at U;obtain⟨i',qa,rfl⟩:=kD hx;obtain⟨j',qb,rfl⟩:=kD hy
   have Y:i'=H.length-1∨r (H.getD i' 0) (H.getD (H.length-1) 0):=by
    by_cases h:i'=H.length-1
    .exact .inl h
    .exact .inr (xL hh (by omega) (by omega))
   have h7:j'=0∨r (J.getD 0 0) (J.getD j' 0):=by
    by_cases h:j'=0
    .exact .inl h
    .exact .inr (xL ho (by omega) (by omega))
   rcases Y with Y|Y<;>rcases h7 with h7|h7
   .rw[Y,h7];exact U
   .rw[Y];exact htr _ _ _ U h7
   .rw[h7];exact htr _ _ _ Y U
   .exact htr _ _ _ Y (htr _ _ _ U h7)
  have hB:∀y,y∈F->∀x,x∈I->r y x:=by
   intro y hy x hx;have O:0<I.length:=List.length_pos_of_mem hx;have h4:0<F.length:=List.length_pos_of_mem hy
   have hc:s<hi:=by
    by_cases h:mid<m
    .have:=(b6 h).2;omega
    .have:=(b7 h).2;omega
   obtain⟨i,j,e1,e2,e3,e4,e5,e6⟩:=hb s (by omega) hc;have U:=s3 s (by omega) hc;simp only[Bool.not_eq_false'] at U;rw[e5,e6,(ha _ (eQ (by simpa using e3)) _ (eQ (by simpa using e4))).1] at U
   have g1:(H++I).getD i 0=I.getD 0 0:=by
    rw[show i=H.length by omega];simp[List.getD,List.getElem?_append_right]
   have g2:(F++J).getD j 0=F.getD (F.length-1) 0:=by
    rw[show j=F.length-1 by omega];simp[List.getD,List.getElem?_append_left (show F.length-1<F.length by omega)]
   rw[g1,g2] at U;obtain⟨i',qa,rfl⟩:=kD hx;obtain⟨j',qb,rfl⟩:=kD hy
   have Y:j'=F.length-1∨r (F.getD j' 0) (F.getD (F.length-1) 0):=by
    by_cases h:j'=F.length-1
    .exact .inl h
    .exact .inr (xL hn (by omega) (by omega))
   have h7:i'=0∨r (I.getD 0 0) (I.getD i' 0):=by
    by_cases h:i'=0
    .exact .inl h
    .exact .inr (xL hk (by omega) (by omega))
   rcases Y with Y|Y<;>rcases h7 with h7|h7
   .rw[Y,h7];exact U
   .rw[Y];exact htr _ _ _ U h7
   .rw[h7];exact htr _ _ _ Y U
   .exact htr _ _ _ Y (htr _ _ _ U h7)
  have hw:(if s<m∧m<mid+m-s then rot m (mid+m-s-s) (m-s) (mid+m-s-m) (P++(H++I++(F++J++Q))) else P++(H++I++(F++J++Q)))=P++(H++(F++(I++(J++Q)))):=by
   split
   .have O:=aGN m (mid+m-s-s) I F (P++H) (J++Q) (by omega) (by rintro rfl;simp at *;omega) (by rintro rfl;simp at *;omega) (by simp;omega);rw[show m-s=I.length by omega,show mid+m-s-m=F.length by omega];simpa using O
   .by_cases O:I=[]
    .subst O;simp
    .have h4:0<I.length:=List.length_pos_iff.2 O;have:F=[]:=List.eq_nil_of_length_eq_zero (by omega);subst this;simp
  rw[hw]
  obtain ⟨Z1,qf,hg,qg⟩:∃Z1,(if P.length<s∧s<mid then smg lt f P.length s mid (P++(H++(F++(I++(J++Q))))) else P++(H++(F++(I++(J++Q)))))=P++(Z1++(I++(J++Q)))∧Z1.Perm (H++F)∧Z1.Pairwise r:=by
   split
   .have O:=aEw f P H F (I++(J++Q)) (by omega) (by rintro rfl;simp at *;omega) (by rintro rfl;simp at *;omega) hh hn (λx hx y hy=>ha x (by simp[hx]) y (by simp[hy]));rw[show P.length+H.length=s by omega,show s+F.length=mid by omega] at O;exact O
   .refine⟨H++F,by simp,List.Perm.refl _,?_⟩;by_cases O:H=[]
    .subst O;simpa using hn
    .have h4:0<H.length:=List.length_pos_iff.2 O;have:F=[]:=List.eq_nil_of_length_eq_zero (by omega);subst this;simpa using hh
  rw[qf];have qh:(P++Z1).length=mid:=by have:=hg.length_eq;simp at this⊢;omega
  obtain ⟨Z2,qd,hz,qe⟩:∃Z2,(if mid<mid+m-s∧mid+m-s<m+(F.length+J.length) then smg lt f mid (mid+m-s) (m+(F.length+J.length)) (P++(Z1++(I++(J++Q)))) else P++(Z1++(I++(J++Q))))=P++(Z1++(Z2++Q))∧Z2.Perm (I++J)∧Z2.Pairwise r:=by
   split
   .have O:=aEw f (P++Z1) I J Q (by omega) (by rintro rfl;simp at *;omega) (by rintro rfl;simp at *;omega) hk ho (λx hx y hy=>ha x (by simp[hx]) y (by simp[hy]));rw[qh,show mid+I.length=mid+m-s by omega,show mid+m-s+J.length=m+(F.length+J.length) by omega] at O;simpa using O
   .refine⟨I++J,by simp,List.Perm.refl _,?_⟩;by_cases O:I=[]
    .subst O;simpa using ho
    .have h4:0<I.length:=List.length_pos_iff.2 O;have:J=[]:=List.eq_nil_of_length_eq_zero (by omega);subst this;simpa using hk
  refine⟨Z1++Z2,by rw[qd];simp,?_,?_⟩
  .refine(hg.append hz).trans ?_;simp only[List.append_assoc];refine List.Perm.append_left H ?_;rw[←List.append_assoc,←List.append_assoc];exact List.Perm.append_right J List.perm_append_comm
  .refine List.pairwise_append.2 ⟨qg,qe,λu hu v hv=>?_⟩;rcases List.mem_append.1 (hg.mem_iff.1 hu) with hu|hu<;>rcases List.mem_append.1 (hz.mem_iff.1 hv) with hv|hv
   .exact qi u hu v hv
   .exact hA u hu v hv
   .exact hB u hu v hv
   .exact qj u hu v hv
theorem aEv:∀{A B:List Int},A.Perm B->A.Pairwise r->B.Pairwise r->A=B
 | [],B,h,_,_=>(List.Perm.nil_eq h).symm ▸ rfl
 |x::A,[],h,_,_=>by have _:=htr;have:=h.length_eq;simp at this
 | x::A,y::B,h,ha,hb=>by
  obtain⟨H,I⟩:=List.pairwise_cons.1 ha;obtain⟨J,L⟩:=List.pairwise_cons.1 hb;by_cases F:x=y
  .subst F;rw[aEv ((List.perm_cons x).1 h) I L]
  .exfalso
   have O:x∈B:=by
    have:=h.mem_iff.1 (List.mem_cons_self (a:=x) (l:=A));rcases List.mem_cons.1 this with h|h
    .exact absurd h F
    .exact h
   have h2:y∈A:=by
    have:=h.mem_iff.2 (List.mem_cons_self (a:=y) (l:=B));rcases List.mem_cons.1 this with h|h
    .exact absurd h.symm F
    .exact h
   exact has _ _ (H y h2) (J x O)
end
def stb (lt:Int->Int->Bool) (l:List Int):List Int:=
 if l.length<20 then qB lt 0 l.length l else
  let l1:=qB lt 20 l.length (qB lt 0 20 l)
  if 20<l.length then smg lt 40 0 20 l.length l1 else l1
theorem aGI (lt:Int->Int->Bool) (l:List Int):(stb lt l).length=l.length:=by
 unfold stb;split
 .rw[gK]
 .dsimp only;split
  .rw[nI,gK,gK]
  .rw[gK,gK]
theorem aLw {lt:Int->Int->Bool}{r:Int->Int->Prop} (htr:∀x y z,r x y->r y z->r x z) (has:∀x y,r x y->¬r y x) {l:List Int} (hl:l.length<=40) (hp:l.Pairwise (aDB lt r)) :
  (stb lt l).Perm l∧(stb lt l).Pairwise r:=by
 unfold stb;split
 .obtain⟨Z,H,h2,I⟩:=aCS htr [] l [] hp;simp only[List.length_nil,Nat.zero_add,List.append_nil,List.nil_append] at H;rw[H];exact⟨h2,I⟩
 .rename_i ha;dsimp only;obtain⟨A,B,rfl,J⟩:∃A B,l=A++B∧A.length=20:=⟨l.take 20,l.drop 20,by simp,by simp;omega⟩;obtain⟨p1,p2,p3⟩:=List.pairwise_append.1 hp;obtain⟨L,H,h2,I⟩:=aCS htr [] A B p1;simp only[List.length_nil,Nat.zero_add,List.nil_append,J] at H;rw[H];have O:L.length=20:=by rw[h2.length_eq,J]
  obtain⟨U,Y,F,g3⟩:=aCS htr L B [] p2;simp only[List.append_nil,O] at Y;rw[show(A++B).length=20+B.length by simp[J],Y];split
  .have h4:=aEw htr has 40 [] L U [] (by have:=F.length_eq;simp[J] at hl;omega) (by rintro rfl;simp at O) (by rintro rfl;have:=F.length_eq;simp at this;omega) I g3
    (λx hx y hy=>p3 x (h2.mem_iff.1 hx) y (F.mem_iff.1 hy))
   simp only[List.length_nil,Nat.zero_add,List.append_nil,List.nil_append,O,F.length_eq] at h4;obtain⟨Z,k1,k2,k3⟩:=h4;rw[k1];exact⟨k2.trans (h2.append F),k3⟩
  .have:B=[]:=List.eq_nil_of_length_eq_zero (by omega);subst this;have:U=[]:=List.Perm.eq_nil F;subst this;simpa using⟨by simpa using h2,I⟩
end
end Go.Proofs.YtmiiohemehacjaaGreatDoor
