/- Symmetric merging of two sorted lists gives the one sorted list; the stable sort of at most forty. -/
set_option linter.all false
set_option maxHeartbeats 8000000
namespace Go.Proofs.YtklmdppgonhflaaGreatDoor
section
def swp (l:List Int) (i j:Nat):List Int:=(l.set i (l.getD j 0)).set j (l.getD i 0)
theorem eF (l:List Int) (i j:Nat):(swp l i j).length=l.length:=by simp[swp]
theorem aCF (P M Q:List Int) (x y:Int):swp (P++x::(M++y::Q)) P.length (P.length+(M.length+1))=P++y::(M++x::Q):=by
 have F:(P++x::(M++y::Q)).getD P.length 0=x:=by simp[List.getD]
 have h2:(P++x::(M++y::Q)).getD (P.length+(M.length+1)) 0=y:=by
  simp[List.getD,List.getElem?_append_right]
 rw[swp,F,h2,List.set_append_right _ _ (Nat.le_refl _),Nat.sub_self,List.set_cons_zero,List.set_append_right _ _ (by omega)];rw[show P.length+(M.length+1)-P.length=M.length+1 by omega,List.set_cons_succ,List.set_append_right _ _ (Nat.le_refl _),Nat.sub_self,List.set_cons_zero]
theorem aFL (l:List Int) {i j:Nat} (h:i≠j):swp l i j=swp l j i:=by rw[swp,swp,List.set_comm _ _ h]
/-! ## insertion -/
def xY (lt:Int->Int->Bool) (a:Nat):Nat->List Int->List Int
 |0,l=>l
 |j+1,l=>if a<j+1∧lt (l.getD (j+1) 0) (l.getD j 0)=true then xY lt a j (swp l (j+1) j) else l
theorem yY (lt:Int->Int->Bool) (a:Nat):∀(j:Nat) (l:List Int),(xY lt a j l).length=l.length
 |0,l=>rfl
 | j+1,l=>by
  rw[xY];split
  .rw[yY lt a j,eF]
  .rfl
theorem aEB (lt:Int->Int->Bool) (a:Nat) (l:List Int):xY lt a a l=l:=by
 cases a with
 |zero=>rfl
 |succ a=>rw[xY,if_neg (by omega)]
def xJ (lt:Int->Int->Bool) (a:Nat):Nat->Nat->List Int->List Int
 |0,_,l=>l
 |n+1,i,l=>xJ lt a n (i+1) (xY lt a i l)
theorem aCn (lt:Int->Int->Bool) (a:Nat):∀(n i:Nat) (l:List Int),(xJ lt a n i l).length=l.length
 |0,_,l=>rfl
 |n+1,i,l=>by rw[xJ,aCn lt a n,yY]
def rH (lt:Int->Int->Bool) (a b:Nat) (l:List Int):List Int:=xJ lt a (b-(a+1)) (a+1) l
theorem iM (lt:Int->Int->Bool) (a b:Nat) (l:List Int):(rH lt a b l).length=l.length:=aCn ..
theorem aII (lt:Int->Int->Bool) (P:List Int):∀(n:Nat) (S:List Int) (x:Int) (Q:List Int),S.length=n->
  ∃F G,S=F++G∧xY lt P.length (P.length+n) (P++(S++x::Q))=P++(F++x::(G++Q))∧(∀e,e∈G->lt x e=true)∧∀e,F.getLast? = some e->lt x e=false
 | 0,S,x,Q,h=>by
  obtain rfl:=List.eq_nil_of_length_eq_zero h;exact⟨[],[],rfl,by rw[Nat.add_zero,aEB];rfl,by simp,by simp⟩
 | n+1,S,x,Q,h=>by
  rcases List.eq_nil_or_concat S with rfl|⟨S',e,rfl⟩
  .simp at h
  .simp only[List.concat_eq_append] at h⊢;have I:S'.length=n:=by simpa using h
   have U:(P++((S'++[e])++x::Q)).getD (P.length+n+1) 0=x:=by
    rw[←I];simp[List.getD,List.getElem?_append_right,Nat.add_assoc]
   have J:(P++((S'++[e])++x::Q)).getD (P.length+n) 0=e:=by
    rw[←I];simp[List.getD,List.getElem?_append_right]
   rw[←Nat.add_assoc,xY,U,J];cases hlt:lt x e
   .rw[if_neg (by simp)]
    exact ⟨S'++[e],[],by simp,by simp,by simp,λe' O=>by
      rw[List.getLast?_concat] at O;obtain rfl:=Option.some.inj O;exact hlt⟩
   .rw[if_pos ⟨by omega,rfl⟩]
    have M:swp (P++((S'++[e])++x::Q)) (P.length+n+1) (P.length+n)=P++(S'++x::(e::Q)):=by
     rw[aFL _ (by omega)];have:=aCF (P++S') [] Q e x;simp only[List.length_append,I,List.length_nil,Nat.zero_add,List.nil_append,←Nat.add_assoc] at this;simpa using this
    rw[M];obtain⟨F,G,V,h2,Y,Z⟩:=aII lt P n S' x (e::Q) I;refine⟨F,G++[e],by rw[V];simp,by rw[h2];simp,λz H=>?_,Z⟩;rcases List.mem_append.1 H with H|H
    .exact Y z H
    .obtain rfl:=List.mem_singleton.1 H;exact hlt
def aEg (lt:Int->Int->Bool) (r:Int->Int->Prop) (e x:Int):Prop:=(lt x e=true↔r x e)∧(r e x∨r x e)
section
variable {lt:Int->Int->Bool}{r:Int->Int->Prop} (htr:∀x y z,r x y->r y z->r x z)
include htr
theorem aLy (P:List Int) {S:List Int}{x:Int} (Q:List Int) (hs:S.Pairwise r) (ha:∀e,e∈S->aEg lt r e x) :
  ∃Z,xY lt P.length (P.length+S.length) (P++(S++x::Q))=P++(Z++Q)∧Z.Perm (S++[x])∧Z.Pairwise r:=by
 obtain⟨G,H,rfl,h2,h3,h4⟩:=aII lt P _ S x Q rfl;refine⟨G++x::H,by rw[h2];simp,?_,?_⟩
 .have:(G++x::H).Perm (G++(H++[x])):=List.Perm.append_left G (List.perm_append_singleton x H).symm;simpa using this
 .obtain⟨p1,p2,p3⟩:=List.pairwise_append.1 hs;have V:∀e,e∈H->r x e:=λe F=>(ha e (by simp[F])).1.1 (h3 e F)
  have U:∀e,e∈G->r e x:=by
   intro e F
   obtain ⟨l,M⟩:∃l,G.getLast? = some l:=by
    cases h:G.getLast? with
    |none=>rw[List.getLast?_eq_none_iff] at h;rw[h] at F;cases F
    |some l=>exact⟨l,rfl⟩
   have O:l∈G:=List.mem_of_getLast? M;have I:=ha l (by simp[O])
   have J:r l x:=by
    rcases I.2 with h|h
    .exact h
    .have:=I.1.2 h;rw[h4 l M] at this;cases this
   obtain⟨S0,rfl⟩:=List.getLast?_eq_some_iff.1 M;rcases List.mem_append.1 F with F|F
   .exact htr _ _ _ ((List.pairwise_append.1 p1).2.2 e F l (by simp)) J
   .obtain rfl:=List.mem_singleton.1 F;exact J
  refine List.pairwise_append.2 ⟨p1,List.pairwise_cons.2 ⟨V,p2⟩,λe F z Y=>?_⟩;rcases List.mem_cons.1 Y with rfl|Y
  .exact U e F
  .exact p3 e F z Y
theorem aGt (P:List Int):∀(X S Q:List Int),S.Pairwise r->(∀e,e∈S->∀x,x∈X->aEg lt r e x)->X.Pairwise (aEg lt r)->
  ∃Z,xJ lt P.length X.length (P.length+S.length) (P++(S++(X++Q)))=P++(Z++Q)∧Z.Perm (S++X)∧Z.Pairwise r
 | [],S,Q,hs,_,_=>⟨S,by simp[xJ],by simp,hs⟩
 | x::X,S,Q,hs,ha,hp=>by
  obtain⟨J,O,h2,U⟩:=aLy htr P (X++Q) hs (λe G=>ha e G x (by simp));have F:J.length=S.length+1:=by simpa using h2.length_eq
  obtain⟨H,I⟩:=List.pairwise_cons.1 hp
  obtain ⟨Z,V,Y,h6⟩:=aGt P X J Q U (λe G y M=>by
    rcases List.mem_append.1 (h2.mem_iff.1 G) with h|h
    . exact ha e h y (by simp[M])
    . obtain rfl:=List.mem_singleton.1 h;exact H y M) I
  refine⟨Z,?_,?_,h6⟩
  .simp only[List.length_cons,xJ,List.cons_append];rw[O,←V,F,Nat.add_assoc]
  .refine Y.trans ((List.Perm.append_right X h2).trans ?_);simp
theorem aDK (P X Q:List Int) (M:X.Pairwise (aEg lt r)):∃Z,rH lt P.length (P.length+X.length) (P++(X++Q))=P++(Z++Q)∧Z.Perm X∧Z.Pairwise r:=by
 cases X with
 |nil=>exact⟨[],by simp[rH,show P.length-(P.length+1)=0 by omega,xJ],by simp,by simp⟩
 | cons x X =>
  obtain⟨F,G⟩:=List.pairwise_cons.1 M;obtain⟨Z,H,h2,I⟩:=aGt htr P X [x] Q (by simp) (λe J y O=>by obtain rfl:=List.mem_singleton.1 J;exact F y O) G;refine⟨Z,?_,by simpa using h2,I⟩;rw[rH,show P.length+(x::X).length-(P.length+1)=X.length by simp;omega];simpa using H
end
/-! ## searching -/
def bs (p:Nat->Bool) (i j:Nat):Nat:=if h:i<j then(if p ((i+j)/2)=true then bs p ((i+j)/2+1) j else bs p i ((i+j)/2)) else i
termination_by j-i
theorem uP (p:Nat->Bool) {i j:Nat} (h:¬i<j):bs p i j=i:=by rw[bs,dif_neg h]
theorem aB5 (p:Nat->Bool) {i j:Nat} (h:i<j) (F:p ((i+j)/2)=true):bs p i j=bs p ((i+j)/2+1) j:=by rw[bs,dif_pos h,if_pos F]
theorem aER (p:Nat->Bool) {i j:Nat} (h:i<j) (F:p ((i+j)/2)=false):bs p i j=bs p i ((i+j)/2):=by rw[bs,dif_pos h,if_neg (by simp[F])]
theorem aGT (p:Nat->Bool):∀(n i j:Nat),j-i<=n->i<=j->(∀c d,i<=c->c<=d->d<j->p d=true->p c=true)->
  (i<=bs p i j∧bs p i j<=j)∧(∀c,i<=c->c<bs p i j->p c=true)∧∀c,bs p i j<=c->c<j->p c=false
 | 0,i,j,h,hij,hm=>by
  rw[uP p (by omega)];exact⟨by omega,λc I h2=>by omega,λc I h2=>by omega⟩
 | n+1,i,j,h,hij,hm=>by
  by_cases H:i<j
  .cases hp:p ((i+j)/2)
   .rw[aER p H hp];obtain⟨I,h2,J⟩:=aGT p n i ((i+j)/2) (by omega) (by omega) λc d a b e=>hm c d a b (by omega);refine⟨by omega,h2,λc M G=>?_⟩;by_cases F:c<(i+j)/2
    .exact J c M F
    .cases hpc:p c with
     |false=>rfl
     |true=>rw[hm ((i+j)/2) c (by omega) (by omega) G hpc] at hp;cases hp
   .rw[aB5 p H hp];obtain⟨I,h2,J⟩:=aGT p n ((i+j)/2+1) j (by omega) (by omega) λc d a b e=>hm c d (by omega) b e;refine⟨by omega,λc M G=>?_,J⟩;by_cases F:c<=(i+j)/2
    .exact hm c _ M F (by omega) hp
    .exact h2 c (by omega) G
  .rw[uP p H];exact⟨by omega,λc I h2=>by omega,λc I h2=>by omega⟩
/-! ## moving -/
def mvU:Nat->Nat->List Int->List Int
 |0,_,l=>l
 |n+1,k,l=>mvU n (k+1) (swp l k (k+1))
def mvD:Nat->Nat->List Int->List Int
 |0,_,l=>l
 |n+1,k,l=>mvD n (k-1) (swp l k (k-1))
def swR:Nat->Nat->Nat->List Int->List Int
 |0,_,_,l=>l
 |n+1,a,b,l=>swR n (a+1) (b+1) (swp l a b)
def rot (m:Nat):Nat->Nat->Nat->List Int->List Int
 |0,_,_,l=>l
 |f+1,i,j,l=>if i=j then swR i (m-i) m l else if j<i then rot m f (i-j) j (swR j (m-i) m l) else rot m f i (j-i) (swR i (m-i) (m+j-i) l)
theorem aDx:∀(n k:Nat) (l:List Int),(mvU n k l).length=l.length
 |0,_,_=>rfl
 |n+1,k,l=>by rw[mvU,aDx n,eF]
theorem aDy:∀(n k:Nat) (l:List Int),(mvD n k l).length=l.length
 |0,_,_=>rfl
 |n+1,k,l=>by rw[mvD,aDy n,eF]
theorem lC:∀(n a b:Nat) (l:List Int),(swR n a b l).length=l.length
 |0,_,_,_=>rfl
 |n+1,a,b,l=>by rw[swR,lC n,eF]
theorem p9 (m:Nat):∀(f i j:Nat) (l:List Int),(rot m f i j l).length=l.length
 |0,_,_,_=>rfl
 | f+1,i,j,l=>by
  rw[rot];split
  .rw[lC]
  .split
   .rw[p9 m f,lC]
   .rw[p9 m f,lC]
theorem aK9:∀(R P Q:List Int) (x:Int),mvU R.length P.length (P++x::(R++Q))=P++(R++x::Q)
 | [],P,Q,x=>rfl
 | y::R,P,Q,x=>by
  have:=aCF P [] (R++Q) x y;simp only[List.length_nil,List.nil_append,Nat.zero_add] at this;simp only[List.length_cons,mvU,List.cons_append];rw[this];have h2:=aK9 R (P++[y]) Q x;simp only[List.length_append,List.length_cons,List.length_nil,Nat.zero_add,List.append_assoc,List.cons_append,List.nil_append] at h2;exact h2
theorem aLb (P:List Int):∀(n:Nat) (L Q:List Int) (y:Int),L.length=n->mvD n (P.length+n) (P++(L++y::Q))=P++(y::(L++Q))
 | 0,L,Q,y,h=>by
  obtain rfl:=List.eq_nil_of_length_eq_zero h;rfl
 | n+1,L,Q,y,h=>by
  rcases List.eq_nil_or_concat L with rfl|⟨L',e,rfl⟩
  .simp at h
  .simp only[List.concat_eq_append] at h⊢;have G:L'.length=n:=by simpa using h
   have F:swp (P++((L'++[e])++y::Q)) (P.length+(n+1)) (P.length+n)=P++(L'++y::(e::Q)):=by
    rw[aFL _ (by omega)];have:=aCF (P++L') [] Q e y;simp only[List.length_append,G,List.length_nil,Nat.zero_add,List.nil_append] at this;simpa[Nat.add_assoc] using this
   rw[mvD,show P.length+(n+1)-1=P.length+n by omega,F,aLb P n L' (e::Q) y G];simp
theorem aE3:∀(X Y P M Q:List Int),X.length=Y.length->swR X.length P.length (P.length+X.length+M.length) (P++(X++(M++(Y++Q))))=P++(Y++(M++(X++Q)))
 | [],Y,P,M,Q,h=>by
  obtain rfl:=List.eq_nil_of_length_eq_zero h.symm;rfl
 |x::X,[],P,M,Q,h=>by simp at h
 | x::X,y::Y,P,M,Q,h=>by
  have G:X.length=Y.length:=by simpa using h
  have F:=aCF P (X++M) (Y++Q) x y;simp only[List.length_append,List.append_assoc] at F;simp only[List.length_cons,swR,List.cons_append];rw[show P.length+(X.length+1)+M.length=P.length+(X.length+M.length+1) by omega,F];have h2:=aE3 X Y (P++[y]) (M++[x]) Q G;simp only[List.length_append,List.length_cons,List.length_nil,Nat.zero_add,List.append_assoc,List.cons_append,List.nil_append] at h2;rw[show P.length+(X.length+M.length+1)+1=P.length+1+X.length+(M.length+1) by omega,h2]
theorem aHg (m:Nat):∀(f:Nat) (X Y P Q:List Int),X.length+Y.length<=f->X≠[]->Y≠[]->m=P.length+X.length->
  rot m f X.length Y.length (P++(X++(Y++Q)))=P++(Y++(X++Q))
 | 0,X,Y,P,Q,hf,hx,_,_=>by
  exact absurd (List.eq_nil_of_length_eq_zero (by omega:X.length=0)) hx
 | f+1,X,Y,P,Q,hf,hx,hy,hm=>by
  have ha:0<X.length:=List.length_pos_iff.2 hx;have hb:0<Y.length:=List.length_pos_iff.2 hy;rw[rot];split
  .rename_i he;have:=aE3 X Y P [] Q he;simp only[List.length_nil,Nat.add_zero,List.nil_append] at this;rw[show m-X.length=P.length by omega,hm];exact this
  .rename_i U;split
   .rename_i O;obtain⟨F,G,rfl,J⟩:∃F G,X=F++G∧F.length=Y.length:=⟨X.take Y.length,X.drop Y.length,by simp,by simp;omega⟩;have h2:(F++G).length=F.length+G.length:=by simp
    have:=aE3 F Y P G Q J;have V:G≠[]:=by rintro rfl;simp at O;omega
    rw[show m-(F++G).length=P.length by omega,←J,hm,h2,List.append_assoc F G,←Nat.add_assoc,this,show F.length+G.length-F.length=G.length by omega];have M:=aHg (P.length+F.length+G.length) f G F (P++Y) Q (by omega) V (by rintro rfl;simp at J;omega) (by simp;omega);simp only[List.append_assoc] at M;rw[M,List.append_assoc]
   .obtain⟨H,I,rfl,J⟩:∃H I,Y=H++I∧I.length=X.length:=⟨Y.take (Y.length-X.length),Y.drop (Y.length-X.length),by simp,by simp;omega⟩;have h2:(H++I).length=H.length+I.length:=by simp
    have:=aE3 X I P H Q J.symm;have Z:H≠[]:=by rintro rfl;simp at U;omega
    rw[h2,J,show m-X.length=P.length by omega,show m+(H.length+X.length)-X.length=P.length+X.length+H.length by omega,List.append_assoc H I,this,show H.length+X.length-X.length=H.length by omega];have M:=aHg m f I H P (X++Q) (by omega) (by rintro rfl;simp at J;omega) Z (by omega);rw[J] at M;rw[M]
    try simp
/-! ## merging -/
def smg (lt:Int->Int->Bool):Nat->Nat->Nat->Nat->List Int->List Int
 |0,_,_,_,l=>l
 | f+1,a,m,b,l =>
  if m-a=1 then mvU (bs (λh=>lt (l.getD h 0) (l.getD a 0)) m b-1-a) a l
  else if b-m=1 then mvD (m-bs (λh=>!lt (l.getD m 0) (l.getD h 0)) a m) m l
  else
   let mid:=(a+b)/2
   let s:=bs (λc=>!lt (l.getD (mid+m-1-c) 0) (l.getD c 0)) (if mid<m then mid+m-b else a) (if mid<m then mid else m)
   let l1:=if s<m∧m<mid+m-s then rot m (mid+m-s-s) (m-s) (mid+m-s-m) l else l
   let l2:=if a<s∧s<mid then smg lt f a s mid l1 else l1
   if mid<mid+m-s∧mid+m-s<b then smg lt f mid (mid+m-s) b l2 else l2
theorem pJ (lt:Int->Int->Bool):∀(f a m b:Nat) (l:List Int),(smg lt f a m b l).length=l.length
 |0,_,_,_,_=>rfl
 | f+1,a,m,b,l=>by
  rw[smg];split
  .rw[aDx]
  .split
   .rw[aDy]
   .dsimp only
    repeat' split
    all_goals simp only[pJ lt f,p9]
theorem get_at {P L R:List Int}{i:Nat} (hi:i<L.length):(P++(L++R)).getD (P.length+i) 0=L.getD i 0:=by
 simp[List.getD,List.getElem?_append_right,List.getElem?_append_left hi]
theorem yM {r:Int->Int->Prop}{L:List Int} (h:L.Pairwise r) {i j:Nat} (F:i<j) (G:j<L.length):r (L.getD i 0) (L.getD j 0):=by
 have:=List.pairwise_iff_getElem.1 h i j (by omega) G F;simpa[List.getD,G,show i<L.length by omega] using this
theorem fJ {L:List Int}{i:Nat} (hi:i<L.length):L.getD i 0∈L:=by simp[List.getD,hi]
theorem lT {L:List Int}{x:Int} (h:x∈L):∃i,i<L.length∧L.getD i 0=x:=by
 obtain⟨i,hi,rfl⟩:=List.mem_iff_getElem.1 h;exact⟨i,hi,by simp[List.getD,hi]⟩
section
variable {lt:Int->Int->Bool}{r:Int->Int->Prop} (htr:∀x y z,r x y->r y z->r x z) (has:∀x y,r x y->¬r y x)
include has
theorem wV {e x:Int} (h:aEg lt r e x):lt x e=false↔r e x:=by
 constructor
 .intro F;rcases h.2 with h2|h2
  .exact h2
  .rw[h.1.2 h2] at F;cases F
 .intro G;cases hl:lt x e with
  |false=>rfl
  |true=>exact absurd (h.1.1 hl) (has _ _ G)
include htr
theorem aMs (P R Q:List Int) (x:Int) (hR:R.Pairwise r) (ha:∀y,y∈R->aEg lt r x y) :
  ∃Z,mvU (bs (λh=>lt ((P++(x::(R++Q))).getD h 0) ((P++(x::(R++Q))).getD P.length 0)) (P.length+1) (P.length+1+R.length)-1-P.length) P.length (P++(x::(R++Q)))=P++(Z++Q)∧Z.Perm (x::R)∧Z.Pairwise r:=by
 have ex:(P++(x::(R++Q))).getD P.length 0=x:=by simp[List.getD]
 have M:∀i,i<R.length->(P++(x::(R++Q))).getD (P.length+1+i) 0=R.getD i 0:=by
  intro i hi;have:=get_at (P:=P++[x]) (R:=Q) hi;simpa using this
 rw[ex];have F:∀i,i<R.length->(lt (R.getD i 0) x=true↔r (R.getD i 0) x):=λi hi=>(ha _ (fJ hi)).1
 obtain ⟨h1,h2,h3⟩:=aGT (λh=>lt ((P++(x::(R++Q))).getD h 0) x) _ (P.length+1) (P.length+1+R.length) (Nat.le_refl _) (by omega) (by
   intro c d hc hb hd I;obtain⟨i,rfl⟩:∃i,c=P.length+1+i:=⟨c-(P.length+1),by omega⟩;obtain⟨j,rfl⟩:∃j,d=P.length+1+j:=⟨d-(P.length+1),by omega⟩
   try simp only at I⊢
   rw[M j (by omega)] at I;rw[M i (by omega)];by_cases U:i=j
   . subst U;exact I
   . exact(F i (by omega)).2 (htr _ _ _ (yM hR (by omega) (by omega)) ((F j (by omega)).1 I)))
 generalize bs (λh=>lt ((P++(x::(R++Q))).getD h 0) x) (P.length+1) (P.length+1+R.length)=s at *
 obtain⟨k,rfl⟩:∃k,s=P.length+1+k:=⟨s-(P.length+1),by omega⟩;have hk:k<=R.length:=by omega
 have O:R=R.take k++R.drop k:=(List.take_append_drop k R).symm;have G:(R.take k).length=k:=by simp;omega
 refine⟨R.take k++x::R.drop k,?_,?_,?_⟩
 .have:=aK9 (R.take k) P (R.drop k++Q) x;rw[G,←List.append_assoc,List.take_append_drop] at this;rw[show P.length+1+k-1-P.length=k by omega,this];simp
 .have h4:(R.take k++x::R.drop k).Perm (x::(R.take k++R.drop k)):=List.perm_middle;rw[List.take_append_drop] at h4;exact h4
 .have I:=hR;rw[O] at I;obtain⟨p1,p2,p3⟩:=List.pairwise_append.1 I
  have V:∀e,e∈R.take k->r e x:=by
   intro e J;obtain⟨i,hi,rfl⟩:=lT J;rw[G] at hi;have H:=h2 (P.length+1+i) (by omega) (by omega)
   try simp only at H
   rw[M i (by omega)] at H;have:(R.take k).getD i 0=R.getD i 0:=by simp[List.getD,List.getElem?_take,hi]
   rw[this];exact(F i (by omega)).1 H
  have Y:∀e,e∈R.drop k->r x e:=by
   intro e J;obtain⟨i,hi,rfl⟩:=lT J;simp only[List.length_drop] at hi;have H:=h3 (P.length+1+(k+i)) (by omega) (by omega)
   try simp only at H
   rw[M (k+i) (by omega)] at H;have:(R.drop k).getD i 0=R.getD (k+i) 0:=by simp[List.getD,List.getElem?_drop]
   rw[this];exact(wV has (ha _ (fJ (by omega)))).1 H
  refine List.pairwise_append.2 ⟨p1,List.pairwise_cons.2 ⟨Y,p2⟩,λe J z hz=>?_⟩;rcases List.mem_cons.1 hz with rfl|hz
  .exact V e J
  .exact p3 e J z hz
theorem aKx (P L Q:List Int) (y:Int) (hL:L.Pairwise r) (ha:∀x,x∈L->aEg lt r x y) :
  ∃Z,mvD (P.length+L.length-bs (λh=>!lt ((P++(L++(y::Q))).getD (P.length+L.length) 0) ((P++(L++(y::Q))).getD h 0)) P.length (P.length+L.length)) (P.length+L.length) (P++(L++(y::Q)))=P++(Z++Q)∧Z.Perm (L++[y])∧Z.Pairwise r:=by
 have ey:(P++(L++(y::Q))).getD (P.length+L.length) 0=y:=by
  simp[List.getD,List.getElem?_append_right]
 have O:∀i,i<L.length->(P++(L++(y::Q))).getD (P.length+i) 0=L.getD i 0:=λi hi=>get_at hi;rw[ey];have F:∀i,i<L.length->(lt y (L.getD i 0)=false↔r (L.getD i 0) y):=λi hi=>wV has (ha _ (fJ hi))
 obtain ⟨h1,h2,h3⟩:=aGT (λh=>!lt y ((P++(L++(y::Q))).getD h 0)) _ P.length (P.length+L.length) (Nat.le_refl _) (by omega) (by
   intro c d hc hf hd J;obtain⟨i,rfl⟩:∃i,c=P.length+i:=⟨c-P.length,by omega⟩;obtain⟨j,rfl⟩:∃j,d=P.length+j:=⟨d-P.length,by omega⟩;simp only[Bool.not_eq_true'] at J⊢;rw[O j (by omega)] at J;rw[O i (by omega)];by_cases V:i=j
   . subst V;exact J
   . exact(F i (by omega)).2 (htr _ _ _ (yM hL (by omega) (by omega)) ((F j (by omega)).1 J)))
 generalize bs (λh=>!lt y ((P++(L++(y::Q))).getD h 0)) P.length (P.length+L.length)=s at *
 obtain⟨k,rfl⟩:∃k,s=P.length+k:=⟨s-P.length,by omega⟩;have hk:k<=L.length:=by omega
 have U:L=L.take k++L.drop k:=(List.take_append_drop k L).symm;have G:(L.take k).length=k:=by simp;omega
 have I:(L.drop k).length=L.length-k:=by simp
 refine⟨L.take k++y::L.drop k,?_,?_,?_⟩
 .have:=aLb (P++L.take k) (L.length-k) (L.drop k) Q y I;simp only[List.length_append,G,List.append_assoc] at this;rw[←List.append_assoc (L.take k),List.take_append_drop,show P.length+k+(L.length-k)=P.length+L.length by omega] at this;rw[show P.length+L.length-(P.length+k)=L.length-k by omega,this];simp
 .have h4:(L.take k++y::L.drop k).Perm (y::(L.take k++L.drop k)):=List.perm_middle;rw[List.take_append_drop] at h4;exact h4.trans (List.perm_append_singleton y L).symm
 .have J:=hL;rw[U] at J;obtain⟨p1,p2,p3⟩:=List.pairwise_append.1 J
  have Y:∀e,e∈L.take k->r e y:=by
   intro e M;obtain⟨i,hi,rfl⟩:=lT M;rw[G] at hi;have H:=h2 (P.length+i) (by omega) (by omega);simp only[Bool.not_eq_true'] at H;rw[O i (by omega)] at H;have:(L.take k).getD i 0=L.getD i 0:=by simp[List.getD,List.getElem?_take,hi]
   rw[this];exact(F i (by omega)).1 H
  have hb:∀e,e∈L.drop k->r y e:=by
   intro e M;obtain⟨i,hi,rfl⟩:=lT M;simp only[List.length_drop] at hi;have H:=h3 (P.length+(k+i)) (by omega) (by omega);simp only[Bool.not_eq_false'] at H;rw[O (k+i) (by omega)] at H;have:(L.drop k).getD i 0=L.getD (k+i) 0:=by simp[List.getD,List.getElem?_drop]
   rw[this];exact(ha _ (fJ (by omega))).1.1 H
  refine List.pairwise_append.2 ⟨p1,List.pairwise_cons.2 ⟨hb,p2⟩,λe M z hz=>?_⟩;rcases List.mem_cons.1 hz with rfl|hz
  .exact Y e M
  .exact p3 e M z hz
end
end
section
section
variable {lt:Int->Int->Bool}{r:Int->Int->Prop} (htr:∀x y z,r x y->r y z->r x z) (has:∀x y,r x y->¬r y x)
include htr has
theorem aE7:∀(f:Nat) (P L R Q:List Int),L.length+R.length<=f->L≠[]->R≠[]->L.Pairwise r->R.Pairwise r->(∀x,x∈L->∀y,y∈R->aEg lt r x y)->
  ∃Z,smg lt f P.length (P.length+L.length) (P.length+L.length+R.length) (P++(L++(R++Q)))=P++(Z++Q)∧Z.Perm (L++R)∧Z.Pairwise r
 |0,P,L,R,Q,hf,hl,_,_,_,_=>absurd (List.eq_nil_of_length_eq_zero (by omega:L.length=0)) hl
 | f+1,P,L,R,Q,hf,hl,hr,hL,hR,ha=>by
  have qr:0<L.length:=List.length_pos_iff.2 hl;have qt:0<R.length:=List.length_pos_iff.2 hr;rw[smg];by_cases h1:L.length=1
  .rw[if_pos (by omega)];obtain⟨x,rfl⟩:=List.length_eq_one_iff.1 h1;have:=aMs htr has P R Q x hR (λy U=>ha x (by simp) y U);simpa using this
  rw[if_neg (by omega)];by_cases h2:R.length=1
  .rw[if_pos (by omega)];obtain⟨y,rfl⟩:=List.length_eq_one_iff.1 h2;have:=aKx htr has P L Q y hL (λx O=>ha x O y (by simp));simpa using this
  rw[if_neg (by omega)];dsimp only;have eL:∀i,i<L.length->(P++(L++(R++Q))).getD (P.length+i) 0=L.getD i 0:=λi hi=>get_at hi
  have eR:∀j,j<R.length->(P++(L++(R++Q))).getD (P.length+L.length+j) 0=R.getD j 0:=by
   intro j hj;have:=get_at (P:=P++L) (R:=Q) hj;simpa using this
  generalize ql:(P.length+(P.length+L.length+R.length))/2=mid;have qs:2*mid<=P.length+(P.length+L.length+R.length)∧P.length+(P.length+L.length+R.length)<=2*mid+1:=by omega
  generalize hm:P.length+L.length=m at *
  generalize hw:(if mid<m then mid+m-(m+R.length) else P.length)=lo;generalize ht:(if mid<m then mid else m)=hi
  have qd:P.length<=lo∧lo<=hi∧hi<=m∧hi<=mid∧mid+m-lo<=m+R.length∧(mid<m->lo=mid-R.length∧hi=mid)∧(¬mid<m->lo=P.length∧hi=m):=by
   by_cases h:mid<m
   .rw[if_pos h] at hw ht;omega
   .rw[if_neg h] at hw ht;omega
  obtain⟨b1,b2,b3,b4,b5,b6,b7⟩:=qd
  have hb:∀c,lo<=c->c<hi->∃i j,c=P.length+i∧mid+m-1-c=m+j∧i<L.length∧j<R.length∧(P++(L++(R++Q))).getD c 0=L.getD i 0∧(P++(L++(R++Q))).getD (mid+m-1-c) 0=R.getD j 0:=by
   intro c H h4;refine⟨c-P.length,mid+m-1-c-m,by omega,by omega,by omega,by omega,?_,?_⟩
   .rw[←eL _ (by omega)];congr 1;omega
   .rw[←eR _ (by omega)];congr 1;omega
  have he:∀c d,lo<=c->c<=d->d<hi->(λc=>!lt ((P++(L++(R++Q))).getD (mid+m-1-c) 0) ((P++(L++(R++Q))).getD c 0)) d=true->(λc=>!lt ((P++(L++(R++Q))).getD (mid+m-1-c) 0) ((P++(L++(R++Q))).getD c 0)) c=true:=by
   intro c d H h4 I hp;obtain⟨i,j,e1,e2,e3,e4,e5,e6⟩:=hb c H (by omega);obtain⟨Y,j',qm,qn,hs,h8,h9,qa⟩:=hb d (by omega) I;simp only[Bool.not_eq_true'] at hp⊢;rw[h9,qa,wV has (ha _ (fJ hs) _ (fJ h8))] at hp;rw[e5,e6,wV has (ha _ (fJ e3) _ (fJ e4))];by_cases qq:c=d
   .have:i=Y:=by omega
    have:j=j':=by omega
    subst_vars;assumption
   .exact htr _ _ _ (htr _ _ _ (yM hL (by omega:i<Y) hs) hp) (yM hR (by omega:j'<j) e4)
  obtain⟨s1,s2,s3⟩:=aGT (λc=>!lt ((P++(L++(R++Q))).getD (mid+m-1-c) 0) ((P++(L++(R++Q))).getD c 0)) _ lo hi (Nat.le_refl _) b2 he;generalize bs (λc=>!lt ((P++(L++(R++Q))).getD (mid+m-1-c) 0) ((P++(L++(R++Q))).getD c 0)) lo hi=s at *
  obtain⟨L1,L2,rfl,qo⟩:∃L1 L2,L=L1++L2∧L1.length=s-P.length:=⟨L.take (s-P.length),L.drop (s-P.length),by simp,by simp;omega⟩;obtain⟨F,G,rfl,qp⟩:∃F G,R=F++G∧F.length=mid-s:=⟨R.take (mid-s),R.drop (mid-s),by simp,by simp;omega⟩;simp only[List.length_append] at *
  obtain⟨hk,hn,qj⟩:=List.pairwise_append.1 hL;obtain⟨ho,hq,qk⟩:=List.pairwise_append.1 hR
  have hA:∀x,x∈L1->∀y,y∈G->r x y:=by
   intro x O y U;have H:0<L1.length:=List.length_pos_of_mem O;have h4:0<G.length:=List.length_pos_of_mem U
   have hd:lo<=s-1:=by
    by_cases h:mid<m
    .have:=(b6 h).1;omega
    .have:=(b7 h).1;omega
   obtain⟨i,j,e1,e2,e3,e4,e5,e6⟩:=hb (s-1) hd (by omega);have I:=s2 (s-1) hd (by omega);simp only[Bool.not_eq_true'] at I;rw[e5,e6,wV has (ha _ (fJ (by simpa using e3)) _ (fJ (by simpa using e4)))] at I
   have g1:(L1++L2).getD i 0=L1.getD (L1.length-1) 0:=by
    rw[show i=L1.length-1 by omega];simp[List.getD,List.getElem?_append_left (show L1.length-1<L1.length by omega)]
   have g2:(F++G).getD j 0=G.getD 0 0:=by
    rw[show j=F.length by omega];simp[List.getD,List.getElem?_append_right]
   rw[g1,g2] at I;obtain⟨Y,qb,rfl⟩:=lT O;obtain⟨j',qc,rfl⟩:=lT U
   have J:Y=L1.length-1∨r (L1.getD Y 0) (L1.getD (L1.length-1) 0):=by
    by_cases h:Y=L1.length-1
    .exact .inl h
    .exact .inr (yM hk (by omega) (by omega))
   have M:j'=0∨r (G.getD 0 0) (G.getD j' 0):=by
    by_cases h:j'=0
    .exact .inl h
    .exact .inr (yM hq (by omega) (by omega))
   rcases J with J|J<;>rcases M with M|M
   .rw[J,M];exact I
   .rw[J];exact htr _ _ _ I M
   .rw[M];exact htr _ _ _ J I
   .exact htr _ _ _ J (htr _ _ _ I M)
  have hB:∀y,y∈F->∀x,x∈L2->r y x:=by
   intro y U x O;have H:0<L2.length:=List.length_pos_of_mem O;have h4:0<F.length:=List.length_pos_of_mem U
   have hc:s<hi:=by
    by_cases h:mid<m
    .have:=(b6 h).2;omega
    .have:=(b7 h).2;omega
   obtain⟨i,j,e1,e2,e3,e4,e5,e6⟩:=hb s (by omega) hc;have I:=s3 s (by omega) hc;simp only[Bool.not_eq_false'] at I;rw[e5,e6,(ha _ (fJ (by simpa using e3)) _ (fJ (by simpa using e4))).1] at I
   have g1:(L1++L2).getD i 0=L2.getD 0 0:=by
    rw[show i=L1.length by omega];simp[List.getD,List.getElem?_append_right]
   have g2:(F++G).getD j 0=F.getD (F.length-1) 0:=by
    rw[show j=F.length-1 by omega];simp[List.getD,List.getElem?_append_left (show F.length-1<F.length by omega)]
   rw[g1,g2] at I;obtain⟨Y,qb,rfl⟩:=lT O;obtain⟨j',qc,rfl⟩:=lT U
   have J:j'=F.length-1∨r (F.getD j' 0) (F.getD (F.length-1) 0):=by
    by_cases h:j'=F.length-1
    .exact .inl h
    .exact .inr (yM ho (by omega) (by omega))
   have M:Y=0∨r (L2.getD 0 0) (L2.getD Y 0):=by
    by_cases h:Y=0
    .exact .inl h
    .exact .inr (yM hn (by omega) (by omega))
   rcases J with J|J<;>rcases M with M|M
   .rw[J,M];exact I
   .rw[J];exact htr _ _ _ I M
   .rw[M];exact htr _ _ _ J I
   .exact htr _ _ _ J (htr _ _ _ I M)
  have hz:(if s<m∧m<mid+m-s then rot m (mid+m-s-s) (m-s) (mid+m-s-m) (P++(L1++L2++(F++G++Q))) else P++(L1++L2++(F++G++Q)))=P++(L1++(F++(L2++(G++Q)))):=by
   split
   .have H:=aHg m (mid+m-s-s) L2 F (P++L1) (G++Q) (by omega) (by rintro rfl;simp at *;omega) (by rintro rfl;simp at *;omega) (by simp;omega);rw[show m-s=L2.length by omega,show mid+m-s-m=F.length by omega];simpa using H
   .by_cases H:L2=[]
    .subst H;simp
    .have h4:0<L2.length:=List.length_pos_iff.2 H;have:F=[]:=List.eq_nil_of_length_eq_zero (by omega);subst this;simp
  rw[hz]
  obtain ⟨V,qg,hg,qh⟩:∃V,(if P.length<s∧s<mid then smg lt f P.length s mid (P++(L1++(F++(L2++(G++Q))))) else P++(L1++(F++(L2++(G++Q)))))=P++(V++(L2++(G++Q)))∧V.Perm (L1++F)∧V.Pairwise r:=by
   split
   .have H:=aE7 f P L1 F (L2++(G++Q)) (by omega) (by rintro rfl;simp at *;omega) (by rintro rfl;simp at *;omega) hk ho (λx O y U=>ha x (by simp[O]) y (by simp[U]));rw[show P.length+L1.length=s by omega,show s+F.length=mid by omega] at H;exact H
   .refine⟨L1++F,by simp,List.Perm.refl _,?_⟩;by_cases H:L1=[]
    .subst H;simpa using ho
    .have h4:0<L1.length:=List.length_pos_iff.2 H;have:F=[]:=List.eq_nil_of_length_eq_zero (by omega);subst this;simpa using hk
  rw[qg];have qi:(P++V).length=mid:=by have:=hg.length_eq;simp at this⊢;omega
  obtain ⟨Z2,qe,h0,qf⟩:∃Z2,(if mid<mid+m-s∧mid+m-s<m+(F.length+G.length) then smg lt f mid (mid+m-s) (m+(F.length+G.length)) (P++(V++(L2++(G++Q)))) else P++(V++(L2++(G++Q))))=P++(V++(Z2++Q))∧Z2.Perm (L2++G)∧Z2.Pairwise r:=by
   split
   .have H:=aE7 f (P++V) L2 G Q (by omega) (by rintro rfl;simp at *;omega) (by rintro rfl;simp at *;omega) hn hq (λx O y U=>ha x (by simp[O]) y (by simp[U]));rw[qi,show mid+L2.length=mid+m-s by omega,show mid+m-s+G.length=m+(F.length+G.length) by omega] at H;simpa using H
   .refine⟨L2++G,by simp,List.Perm.refl _,?_⟩;by_cases H:L2=[]
    .subst H;simpa using hq
    .have h4:0<L2.length:=List.length_pos_iff.2 H;have:G=[]:=List.eq_nil_of_length_eq_zero (by omega);subst this;simpa using hn
  refine⟨V++Z2,by rw[qe];simp,?_,?_⟩
  .refine(hg.append h0).trans ?_;simp only[List.append_assoc];refine List.Perm.append_left L1 ?_;rw[←List.append_assoc,←List.append_assoc];exact List.Perm.append_right G List.perm_append_comm
  .refine List.pairwise_append.2 ⟨qh,qf,λu hu v hv=>?_⟩;rcases List.mem_append.1 (hg.mem_iff.1 hu) with hu|hu<;>rcases List.mem_append.1 (h0.mem_iff.1 hv) with hv|hv
   .exact qj u hu v hv
   .exact hA u hu v hv
   .exact hB u hu v hv
   .exact qk u hu v hv
theorem aE4:∀{A B:List Int},A.Perm B->A.Pairwise r->B.Pairwise r->A=B
 | [],B,h,_,_=>(List.Perm.nil_eq h).symm ▸ rfl
 |x::A,[],h,_,_=>by have _:=htr;have:=h.length_eq;simp at this
 | x::A,y::B,h,ha,hb=>by
  obtain⟨G,H⟩:=List.pairwise_cons.1 ha;obtain⟨I,J⟩:=List.pairwise_cons.1 hb;by_cases F:x=y
  .subst F;rw[aE4 ((List.perm_cons x).1 h) H J]
  .exfalso
   have M:x∈B:=by
    have:=h.mem_iff.1 (List.mem_cons_self (a:=x) (l:=A));rcases List.mem_cons.1 this with h|h
    .exact absurd h F
    .exact h
   have h2:y∈A:=by
    have:=h.mem_iff.2 (List.mem_cons_self (a:=y) (l:=B));rcases List.mem_cons.1 this with h|h
    .exact absurd h.symm F
    .exact h
   exact has _ _ (G y h2) (I x M)
end
def stb (lt:Int->Int->Bool) (l:List Int):List Int:=
 if l.length<20 then rH lt 0 l.length l else
  let l1:=rH lt 20 l.length (rH lt 0 20 l)
  if 20<l.length then smg lt 40 0 20 l.length l1 else l1
theorem aG7 (lt:Int->Int->Bool) (l:List Int):(stb lt l).length=l.length:=by
 unfold stb;split
 .rw[iM]
 .dsimp only;split
  .rw[pJ,iM,iM]
  .rw[iM,iM]
theorem aMr {lt:Int->Int->Bool}{r:Int->Int->Prop} (htr:∀x y z,r x y->r y z->r x z) (has:∀x y,r x y->¬r y x) {l:List Int} (hl:l.length<=40) (Y:l.Pairwise (aEg lt r)) :
  (stb lt l).Perm l∧(stb lt l).Pairwise r:=by
 unfold stb;split
 .obtain⟨Z,G,h2,H⟩:=aDK htr [] l [] Y;simp only[List.length_nil,Nat.zero_add,List.append_nil,List.nil_append] at G;rw[G];exact⟨h2,H⟩
 .rename_i ha;dsimp only;obtain⟨A,B,rfl,I⟩:∃A B,l=A++B∧A.length=20:=⟨l.take 20,l.drop 20,by simp,by simp;omega⟩;obtain⟨p1,p2,p3⟩:=List.pairwise_append.1 Y;obtain⟨J,G,h2,H⟩:=aDK htr [] A B p1;simp only[List.length_nil,Nat.zero_add,List.nil_append,I] at G;rw[G];have M:J.length=20:=by rw[h2.length_eq,I]
  obtain⟨O,U,F,g3⟩:=aDK htr J B [] p2;simp only[List.append_nil,M] at U;rw[show(A++B).length=20+B.length by simp[I],U];split
  .have V:=aE7 htr has 40 [] J O [] (by have:=F.length_eq;simp[I] at hl;omega) (by rintro rfl;simp at M) (by rintro rfl;have:=F.length_eq;simp at this;omega) H g3
    (λx hx y hy=>p3 x (h2.mem_iff.1 hx) y (F.mem_iff.1 hy))
   simp only[List.length_nil,Nat.zero_add,List.append_nil,List.nil_append,M,F.length_eq] at V;obtain⟨Z,k1,k2,k3⟩:=V;rw[k1];exact⟨k2.trans (h2.append F),k3⟩
  .have:B=[]:=List.eq_nil_of_length_eq_zero (by omega);subst this;have:O=[]:=List.Perm.eq_nil F;subst this;simpa using⟨by simpa using h2,H⟩
end
end Go.Proofs.YtklmdppgonhflaaGreatDoor
