/- Symmetric merging of two sorted lists gives the one sorted list; the stable sort of at most forty. -/
set_option linter.all false
set_option maxHeartbeats 8000000
namespace Go.Proofs.YtmiiohemehacjaaGreatDoor
section
def swp (l:List Int) (i j:Nat):List Int:=(l.set i (l.getD j 0)).set j (l.getD i 0)
theorem d9 (l:List Int) (i j:Nat):(swp l i j).length=l.length:=by simp[swp]
theorem aCj (P M Q:List Int) (x y:Int):swp (P++x::(M++y::Q)) P.length (P.length+(M.length+1))=P++y::(M++x::Q):=by
 have u:(P++x::(M++y::Q)).getD P.length 0=x:=by simp[List.getD]
 have h2:(P++x::(M++y::Q)).getD (P.length+(M.length+1)) 0=y:=by
  simp[List.getD,List.getElem?_append_right]
 rw[swp,u,h2,List.set_append_right _ _ (Nat.le_refl _),Nat.sub_self,List.set_cons_zero,List.set_append_right _ _ (by omega)];rw[show P.length+(M.length+1)-P.length=M.length+1 by omega,List.set_cons_succ,List.set_append_right _ _ (Nat.le_refl _),Nat.sub_self,List.set_cons_zero]
theorem aE9 (l:List Int) {i j:Nat} (h:i≠j):swp l i j=swp l j i:=by rw[swp,swp,List.set_comm _ _ h]
/-! ## insertion -/
def w9 (lt:Int->Int->Bool) (a:Nat):Nat->List Int->List Int
 |0,l=>l
 |j+1,l=>if a<j+1∧lt (l.getD (j+1) 0) (l.getD j 0)=true then w9 lt a j (swp l (j+1) j) else l
theorem xV (lt:Int->Int->Bool) (a:Nat):∀(j:Nat) (l:List Int),(w9 lt a j l).length=l.length
 |0,l=>rfl
 | j+1,l=>by
  rw[w9];split
  .rw[xV lt a j,d9]
  .rfl
theorem aD9 (lt:Int->Int->Bool) (a:Nat) (l:List Int):w9 lt a a l=l:=by
 cases a with
 |zero=>rfl
 |succ a=>rw[w9,if_neg (by omega)]
def wH (lt:Int->Int->Bool) (a:Nat):Nat->Nat->List Int->List Int
 |0,_,l=>l
 |n+1,i,l=>wH lt a n (i+1) (w9 lt a i l)
theorem aB0 (lt:Int->Int->Bool) (a:Nat):∀(n i:Nat) (l:List Int),(wH lt a n i l).length=l.length
 |0,_,l=>rfl
 |n+1,i,l=>by rw[wH,aB0 lt a n,xV]
def qE (lt:Int->Int->Bool) (a b:Nat) (l:List Int):List Int:=wH lt a (b-(a+1)) (a+1) l
theorem iF (lt:Int->Int->Bool) (a b:Nat) (l:List Int):(qE lt a b l).length=l.length:=aB0 ..
theorem aHN (lt:Int->Int->Bool) (P:List Int):∀(n:Nat) (S:List Int) (x:Int) (Q:List Int),S.length=n->
  ∃u F,S=u++F∧w9 lt P.length (P.length+n) (P++(S++x::Q))=P++(u++x::(F++Q))∧(∀e,e∈F->lt x e=true)∧∀e,u.getLast? = some e->lt x e=false
 | 0,S,x,Q,h=>by
  obtain rfl:=List.eq_nil_of_length_eq_zero h;exact⟨[],[],rfl,by rw[Nat.add_zero,aD9];rfl,by simp,by simp⟩
 | n+1,S,x,Q,h=>by
  rcases List.eq_nil_or_concat S with rfl|⟨S',e,rfl⟩
  .simp at h
  .simp only[List.concat_eq_append] at h⊢;have H:S'.length=n:=by simpa using h
   have M:(P++((S'++[e])++x::Q)).getD (P.length+n+1) 0=x:=by
    rw[←H];simp[List.getD,List.getElem?_append_right,Nat.add_assoc]
   have I:(P++((S'++[e])++x::Q)).getD (P.length+n) 0=e:=by
    rw[←H];simp[List.getD,List.getElem?_append_right]
   rw[←Nat.add_assoc,w9,M,I];cases hlt:lt x e
   .rw[if_neg (by simp)]
    exact ⟨S'++[e],[],by simp,by simp,by simp,λY L=>by
      rw[List.getLast?_concat] at L;obtain rfl:=Option.some.inj L;exact hlt⟩
   .rw[if_pos ⟨by omega,rfl⟩]
    have J:swp (P++((S'++[e])++x::Q)) (P.length+n+1) (P.length+n)=P++(S'++x::(e::Q)):=by
     rw[aE9 _ (by omega)];have:=aCj (P++S') [] Q e x;simp only[List.length_append,H,List.length_nil,Nat.zero_add,List.nil_append,←Nat.add_assoc] at this;simpa using this
    rw[J];obtain⟨u,F,O,h2,U,V⟩:=aHN lt P n S' x (e::Q) H;refine⟨u,F++[e],by rw[O];simp,by rw[h2];simp,λz G=>?_,V⟩;rcases List.mem_append.1 G with G|G
    .exact U z G
    .obtain rfl:=List.mem_singleton.1 G;exact hlt
def aDQ (lt:Int->Int->Bool) (r:Int->Int->Prop) (e x:Int):Prop:=(lt x e=true↔r x e)∧(r e x∨r x e)
section
variable {lt:Int->Int->Bool}{r:Int->Int->Prop} (htr:∀x y z,r x y->r y z->r x z)
include htr
theorem aKd (P:List Int) {S:List Int}{x:Int} (Q:List Int) (hs:S.Pairwise r) (V:∀e,e∈S->aDQ lt r e x) :
  ∃Z,w9 lt P.length (P.length+S.length) (P++(S++x::Q))=P++(Z++Q)∧Z.Perm (S++[x])∧Z.Pairwise r:=by
 obtain⟨F,G,rfl,h2,h3,h4⟩:=aHN lt P _ S x Q rfl;refine⟨F++x::G,by rw[h2];simp,?_,?_⟩
 .have:(F++x::G).Perm (F++(G++[x])):=List.Perm.append_left F (List.perm_append_singleton x G).symm;simpa using this
 .obtain⟨Y,p2,p3⟩:=List.pairwise_append.1 hs;have O:∀e,e∈G->r x e:=λe u=>(V e (by simp[u])).1.1 (h3 e u)
  have M:∀e,e∈F->r e x:=by
   intro e u
   obtain ⟨l,J⟩:∃l,F.getLast? = some l:=by
    cases h:F.getLast? with
    |none=>rw[List.getLast?_eq_none_iff] at h;rw[h] at u;cases u
    |some l=>exact⟨l,rfl⟩
   have L:l∈F:=List.mem_of_getLast? J;have H:=V l (by simp[L])
   have I:r l x:=by
    rcases H.2 with h|h
    .exact h
    .have:=H.1.2 h;rw[h4 l J] at this;cases this
   obtain⟨S0,rfl⟩:=List.getLast?_eq_some_iff.1 J;rcases List.mem_append.1 u with u|u
   .exact htr _ _ _ ((List.pairwise_append.1 Y).2.2 e u l (by simp)) I
   .obtain rfl:=List.mem_singleton.1 u;exact I
  refine List.pairwise_append.2 ⟨Y,List.pairwise_cons.2 ⟨O,p2⟩,λe u z U=>?_⟩;rcases List.mem_cons.1 U with rfl|U
  .exact M e u
  .exact p3 e u z U
theorem aFO (P:List Int):∀(X S Q:List Int),S.Pairwise r->(∀e,e∈S->∀x,x∈X->aDQ lt r e x)->X.Pairwise (aDQ lt r)->
  ∃Z,wH lt P.length X.length (P.length+S.length) (P++(S++(X++Q)))=P++(Z++Q)∧Z.Perm (S++X)∧Z.Pairwise r
 | [],S,Q,hs,_,_=>⟨S,by simp[wH],by simp,hs⟩
 | x::X,S,Q,hs,ha,hp=>by
  obtain⟨I,L,h2,M⟩:=aKd htr P (X++Q) hs (λe F=>ha e F x (by simp));have u:I.length=S.length+1:=by simpa using h2.length_eq
  obtain⟨G,H⟩:=List.pairwise_cons.1 hp
  obtain ⟨Z,O,U,V⟩:=aFO P X I Q M (λe F y J=>by
    rcases List.mem_append.1 (h2.mem_iff.1 F) with h|h
    . exact ha e h y (by simp[J])
    . obtain rfl:=List.mem_singleton.1 h;exact G y J) H
  refine⟨Z,?_,?_,V⟩
  .simp only[List.length_cons,wH,List.cons_append];rw[L,←O,u,Nat.add_assoc]
  .refine U.trans ((List.Perm.append_right X h2).trans ?_);simp
theorem aDj (P X Q:List Int) (J:X.Pairwise (aDQ lt r)):∃Z,qE lt P.length (P.length+X.length) (P++(X++Q))=P++(Z++Q)∧Z.Perm X∧Z.Pairwise r:=by
 cases X with
 |nil=>exact⟨[],by simp[qE,show P.length-(P.length+1)=0 by omega,wH],by simp,by simp⟩
 | cons x X =>
  obtain⟨u,F⟩:=List.pairwise_cons.1 J;obtain⟨Z,G,h2,H⟩:=aFO htr P X [x] Q (by simp) (λe I y L=>by obtain rfl:=List.mem_singleton.1 I;exact u y L) F;refine⟨Z,?_,by simpa using h2,H⟩;rw[qE,show P.length+(x::X).length-(P.length+1)=X.length by simp;omega];simpa using G
end
/-! ## searching -/
def bs (p:Nat->Bool) (i j:Nat):Nat:=if h:i<j then(if p ((i+j)/2)=true then bs p ((i+j)/2+1) j else bs p i ((i+j)/2)) else i
termination_by j-i
theorem tN (p:Nat->Bool) {i j:Nat} (h:¬i<j):bs p i j=i:=by rw[bs,dif_neg h]
theorem aBH (p:Nat->Bool) {i j:Nat} (h:i<j) (u:p ((i+j)/2)=true):bs p i j=bs p ((i+j)/2+1) j:=by rw[bs,dif_pos h,if_pos u]
theorem aEq (p:Nat->Bool) {i j:Nat} (h:i<j) (u:p ((i+j)/2)=false):bs p i j=bs p i ((i+j)/2):=by rw[bs,dif_pos h,if_neg (by simp[u])]
theorem aGc (p:Nat->Bool):∀(n i j:Nat),j-i<=n->i<=j->(∀c d,i<=c->c<=d->d<j->p d=true->p c=true)->
  (i<=bs p i j∧bs p i j<=j)∧(∀c,i<=c->c<bs p i j->p c=true)∧∀c,bs p i j<=c->c<j->p c=false
 | 0,i,j,h,hij,hm=>by
  rw[tN p (by omega)];exact⟨by omega,λc H h2=>by omega,λc H h2=>by omega⟩
 | n+1,i,j,h,hij,hm=>by
  by_cases G:i<j
  .cases hp:p ((i+j)/2)
   .rw[aEq p G hp];obtain⟨H,h2,I⟩:=aGc p n i ((i+j)/2) (by omega) (by omega) λc d a b e=>hm c d a b (by omega);refine⟨by omega,h2,λc J F=>?_⟩;by_cases u:c<(i+j)/2
    .exact I c J u
    .cases hpc:p c with
     |false=>rfl
     |true=>rw[hm ((i+j)/2) c (by omega) (by omega) F hpc] at hp;cases hp
   .rw[aBH p G hp];obtain⟨H,h2,I⟩:=aGc p n ((i+j)/2+1) j (by omega) (by omega) λc d a b e=>hm c d (by omega) b e;refine⟨by omega,λc J F=>?_,I⟩;by_cases u:c<=(i+j)/2
    .exact hm c _ J u (by omega) hp
    .exact h2 c (by omega) F
  .rw[tN p G];exact⟨by omega,λc H h2=>by omega,λc H h2=>by omega⟩
/-! ## moving -/
def mvU:Nat->Nat->List Int->List Int
 |0,_,l=>l
 |n+1,k,l=>mvU n (k+1) (swp l k (k+1))
def mvD:Nat->Nat->List Int->List Int
 |0,_,l=>l
 |n+1,k,l=>mvD n (k-1) (swp l k (k-1))
def swR:Nat->Nat->Nat->List Int->List Int
 |0,_,_,l=>l
 |n+1,a,b,l=>swR n (a+1) (b+1) (swp l a b)
def rot (m:Nat):Nat->Nat->Nat->List Int->List Int
 |0,_,_,l=>l
 |f+1,i,j,l=>if i=j then swR i (m-i) m l else if j<i then rot m f (i-j) j (swR j (m-i) m l) else rot m f i (j-i) (swR i (m-i) (m+j-i) l)
theorem aC5:∀(n k:Nat) (l:List Int),(mvU n k l).length=l.length
 |0,_,_=>rfl
 |n+1,k,l=>by rw[mvU,aC5 n,d9]
theorem aC6:∀(n k:Nat) (l:List Int),(mvD n k l).length=l.length
 |0,_,_=>rfl
 |n+1,k,l=>by rw[mvD,aC6 n,d9]
theorem kC:∀(n a b:Nat) (l:List Int),(swR n a b l).length=l.length
 |0,_,_,_=>rfl
 |n+1,a,b,l=>by rw[swR,kC n,d9]
theorem oQ (m:Nat):∀(f i j:Nat) (l:List Int),(rot m f i j l).length=l.length
 |0,_,_,_=>rfl
 | f+1,i,j,l=>by
  rw[rot];split
  .rw[kC]
  .split
   .rw[oQ m f,kC]
   .rw[oQ m f,kC]
theorem aJR:∀(R P Q:List Int) (x:Int),mvU R.length P.length (P++x::(R++Q))=P++(R++x::Q)
 | [],P,Q,x=>rfl
 | y::R,P,Q,x=>by
  have:=aCj P [] (R++Q) x y;simp only[List.length_nil,List.nil_append,Nat.zero_add] at this;simp only[List.length_cons,mvU,List.cons_append];rw[this];have h2:=aJR R (P++[y]) Q x;simp only[List.length_append,List.length_cons,List.length_nil,Nat.zero_add,List.append_assoc,List.cons_append,List.nil_append] at h2;exact h2
theorem aJT (P:List Int):∀(n:Nat) (L Q:List Int) (y:Int),L.length=n->mvD n (P.length+n) (P++(L++y::Q))=P++(y::(L++Q))
 | 0,L,Q,y,h=>by
  obtain rfl:=List.eq_nil_of_length_eq_zero h;rfl
 | n+1,L,Q,y,h=>by
  rcases List.eq_nil_or_concat L with rfl|⟨L',e,rfl⟩
  .simp at h
  .simp only[List.concat_eq_append] at h⊢;have F:L'.length=n:=by simpa using h
   have u:swp (P++((L'++[e])++y::Q)) (P.length+(n+1)) (P.length+n)=P++(L'++y::(e::Q)):=by
    rw[aE9 _ (by omega)];have:=aCj (P++L') [] Q e y;simp only[List.length_append,F,List.length_nil,Nat.zero_add,List.nil_append] at this;simpa[Nat.add_assoc] using this
   rw[mvD,show P.length+(n+1)-1=P.length+n by omega,u,aJT P n L' (e::Q) y F];simp
theorem aEB:∀(X Y P M Q:List Int),X.length=Y.length->swR X.length P.length (P.length+X.length+M.length) (P++(X++(M++(Y++Q))))=P++(Y++(M++(X++Q)))
 | [],Y,P,M,Q,h=>by
  obtain rfl:=List.eq_nil_of_length_eq_zero h.symm;rfl
 |x::X,[],P,M,Q,h=>by simp at h
 | x::X,y::Y,P,M,Q,h=>by
  have F:X.length=Y.length:=by simpa using h
  have u:=aCj P (X++M) (Y++Q) x y;simp only[List.length_append,List.append_assoc] at u;simp only[List.length_cons,swR,List.cons_append];rw[show P.length+(X.length+1)+M.length=P.length+(X.length+M.length+1) by omega,u];have h2:=aEB X Y (P++[y]) (M++[x]) Q F;simp only[List.length_append,List.length_cons,List.length_nil,Nat.zero_add,List.append_assoc,List.cons_append,List.nil_append] at h2;rw[show P.length+(X.length+M.length+1)+1=P.length+1+X.length+(M.length+1) by omega,h2]
theorem aGx (m:Nat):∀(f:Nat) (X Y P Q:List Int),X.length+Y.length<=f->X≠[]->Y≠[]->m=P.length+X.length->
  rot m f X.length Y.length (P++(X++(Y++Q)))=P++(Y++(X++Q))
 | 0,X,Y,P,Q,hf,hx,_,_=>by
  exact absurd (List.eq_nil_of_length_eq_zero (by omega:X.length=0)) hx
 | f+1,X,Y,P,Q,hf,hx,hy,hm=>by
  have Z:0<X.length:=List.length_pos_iff.2 hx;have ha:0<Y.length:=List.length_pos_iff.2 hy;rw[rot];split
  .rename_i V;have:=aEB X Y P [] Q V;simp only[List.length_nil,Nat.add_zero,List.nil_append] at this;rw[show m-X.length=P.length by omega,hm];exact this
  .rename_i M;split
   .rename_i L;obtain⟨u,F,rfl,I⟩:∃u F,X=u++F∧u.length=Y.length:=⟨X.take Y.length,X.drop Y.length,by simp,by simp;omega⟩;have h2:(u++F).length=u.length+F.length:=by simp
    have:=aEB u Y P F Q I;have O:F≠[]:=by rintro rfl;simp at L;omega
    rw[show m-(u++F).length=P.length by omega,←I,hm,h2,List.append_assoc u F,←Nat.add_assoc,this,show u.length+F.length-u.length=F.length by omega];have J:=aGx (P.length+u.length+F.length) f F u (P++Y) Q (by omega) O (by rintro rfl;simp at I;omega) (by simp;omega);simp only[List.append_assoc] at J;rw[J,List.append_assoc]
   .obtain⟨G,H,rfl,I⟩:∃G H,Y=G++H∧H.length=X.length:=⟨Y.take (Y.length-X.length),Y.drop (Y.length-X.length),by simp,by simp;omega⟩;have h2:(G++H).length=G.length+H.length:=by simp
    have:=aEB X H P G Q I.symm;have U:G≠[]:=by rintro rfl;simp at M;omega
    rw[h2,I,show m-X.length=P.length by omega,show m+(G.length+X.length)-X.length=P.length+X.length+G.length by omega,List.append_assoc G H,this,show G.length+X.length-X.length=G.length by omega];have J:=aGx m f H G P (X++Q) (by omega) (by rintro rfl;simp at I;omega) U (by omega);rw[I] at J;rw[J]
    try simp
/-! ## merging -/
def smg (lt:Int->Int->Bool):Nat->Nat->Nat->Nat->List Int->List Int
 |0,_,_,_,l=>l
 | f+1,a,m,b,l =>
  if m-a=1 then mvU (bs (λh=>lt (l.getD h 0) (l.getD a 0)) m b-1-a) a l
  else if b-m=1 then mvD (m-bs (λh=>!lt (l.getD m 0) (l.getD h 0)) a m) m l
  else
   let mid:=(a+b)/2
   let s:=bs (λc=>!lt (l.getD (mid+m-1-c) 0) (l.getD c 0)) (if mid<m then mid+m-b else a) (if mid<m then mid else m)
   let l1:=if s<m∧m<mid+m-s then rot m (mid+m-s-s) (m-s) (mid+m-s-m) l else l
   let l2:=if a<s∧s<mid then smg lt f a s mid l1 else l1
   if mid<mid+m-s∧mid+m-s<b then smg lt f mid (mid+m-s) b l2 else l2
theorem oG (lt:Int->Int->Bool):∀(f a m b:Nat) (l:List Int),(smg lt f a m b l).length=l.length
 |0,_,_,_,_=>rfl
 | f+1,a,m,b,l=>by
  rw[smg];split
  .rw[aC5]
  .split
   .rw[aC6]
   .dsimp only
    repeat' split
    all_goals simp only[oG lt f,oQ]
theorem get_at {P L R:List Int}{i:Nat} (hi:i<L.length):(P++(L++R)).getD (P.length+i) 0=L.getD i 0:=by
 simp[List.getD,List.getElem?_append_right,List.getElem?_append_left hi]
theorem xN {r:Int->Int->Prop}{L:List Int} (h:L.Pairwise r) {i j:Nat} (u:i<j) (F:j<L.length):r (L.getD i 0) (L.getD j 0):=by
 have:=List.pairwise_iff_getElem.1 h i j (by omega) F u;simpa[List.getD,F,show i<L.length by omega] using this
theorem fT {L:List Int}{i:Nat} (hi:i<L.length):L.getD i 0∈L:=by simp[List.getD,hi]
theorem kQ {L:List Int}{x:Int} (h:x∈L):∃i,i<L.length∧L.getD i 0=x:=by
 obtain⟨i,hi,rfl⟩:=List.mem_iff_getElem.1 h;exact⟨i,hi,by simp[List.getD,hi]⟩
section
variable {lt:Int->Int->Bool}{r:Int->Int->Prop} (htr:∀x y z,r x y->r y z->r x z) (has:∀x y,r x y->¬r y x)
include has
theorem vQ {e x:Int} (h:aDQ lt r e x):lt x e=false↔r e x:=by
 constructor
 .intro u;rcases h.2 with h2|h2
  .exact h2
  .rw[h.1.2 h2] at u;cases u
 .intro F;cases hl:lt x e with
  |false=>rfl
  |true=>exact absurd (h.1.1 hl) (has _ _ F)
include htr
theorem aK8 (P R Q:List Int) (x:Int) (hR:R.Pairwise r) (ha:∀y,y∈R->aDQ lt r x y) :
  ∃Z,mvU (bs (λh=>lt ((P++(x::(R++Q))).getD h 0) ((P++(x::(R++Q))).getD P.length 0)) (P.length+1) (P.length+1+R.length)-1-P.length) P.length (P++(x::(R++Q)))=P++(Z++Q)∧Z.Perm (x::R)∧Z.Pairwise r:=by
 have ex:(P++(x::(R++Q))).getD P.length 0=x:=by simp[List.getD]
 have J:∀i,i<R.length->(P++(x::(R++Q))).getD (P.length+1+i) 0=R.getD i 0:=by
  intro i hi;have:=get_at (P:=P++[x]) (R:=Q) hi;simpa using this
 rw[ex];have u:∀i,i<R.length->(lt (R.getD i 0) x=true↔r (R.getD i 0) x):=λi hi=>(ha _ (fT hi)).1
 obtain ⟨h1,h2,h3⟩:=aGc (λh=>lt ((P++(x::(R++Q))).getD h 0) x) _ (P.length+1) (P.length+1+R.length) (Nat.le_refl _) (by omega) (by
   intro c d hc hb hd H;obtain⟨i,rfl⟩:∃i,c=P.length+1+i:=⟨c-(P.length+1),by omega⟩;obtain⟨j,rfl⟩:∃j,d=P.length+1+j:=⟨d-(P.length+1),by omega⟩
   try simp only at H⊢
   rw[J j (by omega)] at H;rw[J i (by omega)];by_cases M:i=j
   . subst M;exact H
   . exact(u i (by omega)).2 (htr _ _ _ (xN hR (by omega) (by omega)) ((u j (by omega)).1 H)))
 generalize bs (λh=>lt ((P++(x::(R++Q))).getD h 0) x) (P.length+1) (P.length+1+R.length)=s at *
 obtain⟨k,rfl⟩:∃k,s=P.length+1+k:=⟨s-(P.length+1),by omega⟩;have hk:k<=R.length:=by omega
 have L:R=R.take k++R.drop k:=(List.take_append_drop k R).symm;have F:(R.take k).length=k:=by simp;omega
 refine⟨R.take k++x::R.drop k,?_,?_,?_⟩
 .have:=aJR (R.take k) P (R.drop k++Q) x;rw[F,←List.append_assoc,List.take_append_drop] at this;rw[show P.length+1+k-1-P.length=k by omega,this];simp
 .have Y:(R.take k++x::R.drop k).Perm (x::(R.take k++R.drop k)):=List.perm_middle;rw[List.take_append_drop] at Y;exact Y
 .have H:=hR;rw[L] at H;obtain⟨p1,p2,p3⟩:=List.pairwise_append.1 H
  have O:∀e,e∈R.take k->r e x:=by
   intro e I;obtain⟨i,hi,rfl⟩:=kQ I;rw[F] at hi;have G:=h2 (P.length+1+i) (by omega) (by omega)
   try simp only at G
   rw[J i (by omega)] at G;have:(R.take k).getD i 0=R.getD i 0:=by simp[List.getD,List.getElem?_take,hi]
   rw[this];exact(u i (by omega)).1 G
  have U:∀e,e∈R.drop k->r x e:=by
   intro e I;obtain⟨i,hi,rfl⟩:=kQ I;simp only[List.length_drop] at hi;have G:=h3 (P.length+1+(k+i)) (by omega) (by omega)
   try simp only at G
   rw[J (k+i) (by omega)] at G;have:(R.drop k).getD i 0=R.getD (k+i) 0:=by simp[List.getD,List.getElem?_drop]
   rw[this];exact(vQ has (ha _ (fT (by omega)))).1 G
  refine List.pairwise_append.2 ⟨p1,List.pairwise_cons.2 ⟨U,p2⟩,λe I z V=>?_⟩;rcases List.mem_cons.1 V with rfl|V
  .exact O e I
  .exact p3 e I z V
theorem aJl (P L Q:List Int) (y:Int) (hL:L.Pairwise r) (ha:∀x,x∈L->aDQ lt r x y) :
  ∃Z,mvD (P.length+L.length-bs (λh=>!lt ((P++(L++(y::Q))).getD (P.length+L.length) 0) ((P++(L++(y::Q))).getD h 0)) P.length (P.length+L.length)) (P.length+L.length) (P++(L++(y::Q)))=P++(Z++Q)∧Z.Perm (L++[y])∧Z.Pairwise r:=by
 have ey:(P++(L++(y::Q))).getD (P.length+L.length) 0=y:=by
  simp[List.getD,List.getElem?_append_right]
 have M:∀i,i<L.length->(P++(L++(y::Q))).getD (P.length+i) 0=L.getD i 0:=λi hi=>get_at hi;rw[ey];have u:∀i,i<L.length->(lt y (L.getD i 0)=false↔r (L.getD i 0) y):=λi hi=>vQ has (ha _ (fT hi))
 obtain ⟨h1,h2,h3⟩:=aGc (λh=>!lt y ((P++(L++(y::Q))).getD h 0)) _ P.length (P.length+L.length) (Nat.le_refl _) (by omega) (by
   intro c d hc hb hd I;obtain⟨i,rfl⟩:∃i,c=P.length+i:=⟨c-P.length,by omega⟩;obtain⟨j,rfl⟩:∃j,d=P.length+j:=⟨d-P.length,by omega⟩;simp only[Bool.not_eq_true'] at I⊢;rw[M j (by omega)] at I;rw[M i (by omega)];by_cases U:i=j
   . subst U;exact I
   . exact(u i (by omega)).2 (htr _ _ _ (xN hL (by omega) (by omega)) ((u j (by omega)).1 I)))
 generalize bs (λh=>!lt y ((P++(L++(y::Q))).getD h 0)) P.length (P.length+L.length)=s at *
 obtain⟨k,rfl⟩:∃k,s=P.length+k:=⟨s-P.length,by omega⟩;have hk:k<=L.length:=by omega
 have O:L=L.take k++L.drop k:=(List.take_append_drop k L).symm;have F:(L.take k).length=k:=by simp;omega
 have H:(L.drop k).length=L.length-k:=by simp
 refine⟨L.take k++y::L.drop k,?_,?_,?_⟩
 .have:=aJT (P++L.take k) (L.length-k) (L.drop k) Q y H;simp only[List.length_append,F,List.append_assoc] at this;rw[←List.append_assoc (L.take k),List.take_append_drop,show P.length+k+(L.length-k)=P.length+L.length by omega] at this;rw[show P.length+L.length-(P.length+k)=L.length-k by omega,this];simp
 .have h4:(L.take k++y::L.drop k).Perm (y::(L.take k++L.drop k)):=List.perm_middle;rw[List.take_append_drop] at h4;exact h4.trans (List.perm_append_singleton y L).symm
 .have I:=hL;rw[O] at I;obtain⟨p1,p2,p3⟩:=List.pairwise_append.1 I
  have V:∀e,e∈L.take k->r e y:=by
   intro e J;obtain⟨i,hi,rfl⟩:=kQ J;rw[F] at hi;have G:=h2 (P.length+i) (by omega) (by omega);simp only[Bool.not_eq_true'] at G;rw[M i (by omega)] at G;have:(L.take k).getD i 0=L.getD i 0:=by simp[List.getD,List.getElem?_take,hi]
   rw[this];exact(u i (by omega)).1 G
  have Y:∀e,e∈L.drop k->r y e:=by
   intro e J;obtain⟨i,hi,rfl⟩:=kQ J;simp only[List.length_drop] at hi;have G:=h3 (P.length+(k+i)) (by omega) (by omega);simp only[Bool.not_eq_false'] at G;rw[M (k+i) (by omega)] at G;have:(L.drop k).getD i 0=L.getD (k+i) 0:=by simp[List.getD,List.getElem?_drop]
   rw[this];exact(ha _ (fT (by omega))).1.1 G
  refine List.pairwise_append.2 ⟨p1,List.pairwise_cons.2 ⟨Y,p2⟩,λe J z hz=>?_⟩;rcases List.mem_cons.1 hz with rfl|hz
  .exact V e J
  .exact p3 e J z hz
end
end
section
section
variable {lt:Int->Int->Bool}{r:Int->Int->Prop} (htr:∀x y z,r x y->r y z->r x z) (has:∀x y,r x y->¬r y x)
include htr has
theorem aEE:∀(f:Nat) (P L R Q:List Int),L.length+R.length<=f->L≠[]->R≠[]->L.Pairwise r->R.Pairwise r->(∀x,x∈L->∀y,y∈R->aDQ lt r x y)->
  ∃Z,smg lt f P.length (P.length+L.length) (P.length+L.length+R.length) (P++(L++(R++Q)))=P++(Z++Q)∧Z.Perm (L++R)∧Z.Pairwise r
 |0,P,L,R,Q,hf,hl,_,_,_,_=>absurd (List.eq_nil_of_length_eq_zero (by omega:L.length=0)) hl
 | f+1,P,L,R,Q,hf,hl,hr,hL,hR,ha=>by
  have qr:0<L.length:=List.length_pos_iff.2 hl;have qt:0<R.length:=List.length_pos_iff.2 hr;rw[smg];by_cases h1:L.length=1
  .rw[if_pos (by omega)];obtain⟨x,rfl⟩:=List.length_eq_one_iff.1 h1;have:=aK8 htr has P R Q x hR (λy U=>ha x (by simp) y U);simpa using this
  rw[if_neg (by omega)];by_cases h2:R.length=1
  .rw[if_pos (by omega)];obtain⟨y,rfl⟩:=List.length_eq_one_iff.1 h2;have:=aJl htr has P L Q y hL (λx O=>ha x O y (by simp));simpa using this
  rw[if_neg (by omega)];dsimp only;have eL:∀i,i<L.length->(P++(L++(R++Q))).getD (P.length+i) 0=L.getD i 0:=λi hi=>get_at hi
  have eR:∀j,j<R.length->(P++(L++(R++Q))).getD (P.length+L.length+j) 0=R.getD j 0:=by
   intro j hj;have:=get_at (P:=P++L) (R:=Q) hj;simpa using this
  generalize ql:(P.length+(P.length+L.length+R.length))/2=mid;have qs:2*mid<=P.length+(P.length+L.length+R.length)∧P.length+(P.length+L.length+R.length)<=2*mid+1:=by omega
  generalize hm:P.length+L.length=m at *
  generalize hw:(if mid<m then mid+m-(m+R.length) else P.length)=lo;generalize ht:(if mid<m then mid else m)=hi
  have qd:P.length<=lo∧lo<=hi∧hi<=m∧hi<=mid∧mid+m-lo<=m+R.length∧(mid<m->lo=mid-R.length∧hi=mid)∧(¬mid<m->lo=P.length∧hi=m):=by
   by_cases h:mid<m
   .rw[if_pos h] at hw ht;omega
   .rw[if_neg h] at hw ht;omega
  obtain⟨b1,b2,b3,b4,b5,b6,b7⟩:=qd
  have hb:∀c,lo<=c->c<hi->∃i j,c=P.length+i∧mid+m-1-c=m+j∧i<L.length∧j<R.length∧(P++(L++(R++Q))).getD c 0=L.getD i 0∧(P++(L++(R++Q))).getD (mid+m-1-c) 0=R.getD j 0:=by
   intro c H h4;refine⟨c-P.length,mid+m-1-c-m,by omega,by omega,by omega,by omega,?_,?_⟩
   .rw[←eL _ (by omega)];congr 1;omega
   .rw[←eR _ (by omega)];congr 1;omega
  have he:∀c d,lo<=c->c<=d->d<hi->(λc=>!lt ((P++(L++(R++Q))).getD (mid+m-1-c) 0) ((P++(L++(R++Q))).getD c 0)) d=true->(λc=>!lt ((P++(L++(R++Q))).getD (mid+m-1-c) 0) ((P++(L++(R++Q))).getD c 0)) c=true:=by
   intro c d H h4 I hp;obtain⟨i,j,e1,e2,e3,e4,e5,e6⟩:=hb c H (by omega);obtain⟨Y,j',qm,qn,hs,h8,h9,qa⟩:=hb d (by omega) I;simp only[Bool.not_eq_true'] at hp⊢;rw[h9,qa,vQ has (ha _ (fT hs) _ (fT h8))] at hp;rw[e5,e6,vQ has (ha _ (fT e3) _ (fT e4))];by_cases qq:c=d
   .have:i=Y:=by omega
    have:j=j':=by omega
    subst_vars;assumption
   .exact htr _ _ _ (htr _ _ _ (xN hL (by omega:i<Y) hs) hp) (xN hR (by omega:j'<j) e4)
  obtain⟨s1,s2,s3⟩:=aGc (λc=>!lt ((P++(L++(R++Q))).getD (mid+m-1-c) 0) ((P++(L++(R++Q))).getD c 0)) _ lo hi (Nat.le_refl _) b2 he;generalize bs (λc=>!lt ((P++(L++(R++Q))).getD (mid+m-1-c) 0) ((P++(L++(R++Q))).getD c 0)) lo hi=s at *
  obtain⟨L1,L2,rfl,qo⟩:∃L1 L2,L=L1++L2∧L1.length=s-P.length:=⟨L.take (s-P.length),L.drop (s-P.length),by simp,by simp;omega⟩;obtain⟨F,G,rfl,qp⟩:∃F G,R=F++G∧F.length=mid-s:=⟨R.take (mid-s),R.drop (mid-s),by simp,by simp;omega⟩;simp only[List.length_append] at *
  obtain⟨hk,hn,qj⟩:=List.pairwise_append.1 hL;obtain⟨ho,hq,qk⟩:=List.pairwise_append.1 hR
  have hA:∀x,x∈L1->∀y,y∈G->r x y:=by
   intro x O y U;have H:0<L1.length:=List.length_pos_of_mem O;have h4:0<G.length:=List.length_pos_of_mem U
   have hd:lo<=s-1:=by
    by_cases h:mid<m
    .have:=(b6 h).1;omega
    .have:=(b7 h).1;omega
   obtain⟨i,j,e1,e2,e3,e4,e5,e6⟩:=hb (s-1) hd (by omega);have I:=s2 (s-1) hd (by omega);simp only[Bool.not_eq_true'] at I;rw[e5,e6,vQ has (ha _ (fT (by simpa using e3)) _ (fT (by simpa using e4)))] at I
   have g1:(L1++L2).getD i 0=L1.getD (L1.length-1) 0:=by
    rw[show i=L1.length-1 by omega];simp[List.getD,List.getElem?_append_left (show L1.length-1<L1.length by omega)]
   have g2:(F++G).getD j 0=G.getD 0 0:=by
    rw[show j=F.length by omega];simp[List.getD,List.getElem?_append_right]
   rw[g1,g2] at I;obtain⟨Y,qb,rfl⟩:=kQ O;obtain⟨j',qc,rfl⟩:=kQ U
   have J:Y=L1.length-1∨r (L1.getD Y 0) (L1.getD (L1.length-1) 0):=by
    by_cases h:Y=L1.length-1
    .exact .inl h
    .exact .inr (xN hk (by omega) (by omega))
   have M:j'=0∨r (G.getD 0 0) (G.getD j' 0):=by
    by_cases h:j'=0
    .exact .inl h
    .exact .inr (xN hq (by omega) (by omega))
   rcases J with J|J<;>rcases M with M|M
   .rw[J,M];exact I
   .rw[J];exact htr _ _ _ I M
   .rw[M];exact htr _ _ _ J I
   .exact htr _ _ _ J (htr _ _ _ I M)
  have hB:∀y,y∈F->∀x,x∈L2->r y x:=by
   intro y U x O;have H:0<L2.length:=List.length_pos_of_mem O;have h4:0<F.length:=List.length_pos_of_mem U
   have hc:s<hi:=by
    by_cases h:mid<m
    .have:=(b6 h).2;omega
    .have:=(b7 h).2;omega
   obtain⟨i,j,e1,e2,e3,e4,e5,e6⟩:=hb s (by omega) hc;have I:=s3 s (by omega) hc;simp only[Bool.not_eq_false'] at I;rw[e5,e6,(ha _ (fT (by simpa using e3)) _ (fT (by simpa using e4))).1] at I
   have g1:(L1++L2).getD i 0=L2.getD 0 0:=by
    rw[show i=L1.length by omega];simp[List.getD,List.getElem?_append_right]
   have g2:(F++G).getD j 0=F.getD (F.length-1) 0:=by
    rw[show j=F.length-1 by omega];simp[List.getD,List.getElem?_append_left (show F.length-1<F.length by omega)]
   rw[g1,g2] at I;obtain⟨Y,qb,rfl⟩:=kQ O;obtain⟨j',qc,rfl⟩:=kQ U
   have J:j'=F.length-1∨r (F.getD j' 0) (F.getD (F.length-1) 0):=by
    by_cases h:j'=F.length-1
    .exact .inl h
    .exact .inr (xN ho (by omega) (by omega))
   have M:Y=0∨r (L2.getD 0 0) (L2.getD Y 0):=by
    by_cases h:Y=0
    .exact .inl h
    .exact .inr (xN hn (by omega) (by omega))
   rcases J with J|J<;>rcases M with M|M
   .rw[J,M];exact I
   .rw[J];exact htr _ _ _ I M
   .rw[M];exact htr _ _ _ J I
   .exact htr _ _ _ J (htr _ _ _ I M)
  have hz:(if s<m∧m<mid+m-s then rot m (mid+m-s-s) (m-s) (mid+m-s-m) (P++(L1++L2++(F++G++Q))) else P++(L1++L2++(F++G++Q)))=P++(L1++(F++(L2++(G++Q)))):=by
   split
   .have H:=aGx m (mid+m-s-s) L2 F (P++L1) (G++Q) (by omega) (by rintro rfl;simp at *;omega) (by rintro rfl;simp at *;omega) (by simp;omega);rw[show m-s=L2.length by omega,show mid+m-s-m=F.length by omega];simpa using H
   .by_cases H:L2=[]
    .subst H;simp
    .have h4:0<L2.length:=List.length_pos_iff.2 H;have:F=[]:=List.eq_nil_of_length_eq_zero (by omega);subst this;simp
  rw[hz]
  obtain ⟨V,qg,hg,qh⟩:∃V,(if P.length<s∧s<mid then smg lt f P.length s mid (P++(L1++(F++(L2++(G++Q))))) else P++(L1++(F++(L2++(G++Q)))))=P++(V++(L2++(G++Q)))∧V.Perm (L1++F)∧V.Pairwise r:=by
   split
   .have H:=aEE f P L1 F (L2++(G++Q)) (by omega) (by rintro rfl;simp at *;omega) (by rintro rfl;simp at *;omega) hk ho (λx O y U=>ha x (by simp[O]) y (by simp[U]));rw[show P.length+L1.length=s by omega,show s+F.length=mid by omega] at H;exact H
   .refine⟨L1++F,by simp,List.Perm.refl _,?_⟩;by_cases H:L1=[]
    .subst H;simpa using ho
    .have h4:0<L1.length:=List.length_pos_iff.2 H;have:F=[]:=List.eq_nil_of_length_eq_zero (by omega);subst this;simpa using hk
  rw[qg];have qi:(P++V).length=mid:=by have:=hg.length_eq;simp at this⊢;omega
  obtain ⟨Z2,qe,h0,qf⟩:∃Z2,(if mid<mid+m-s∧mid+m-s<m+(F.length+G.length) then smg lt f mid (mid+m-s) (m+(F.length+G.length)) (P++(V++(L2++(G++Q)))) else P++(V++(L2++(G++Q))))=P++(V++(Z2++Q))∧Z2.Perm (L2++G)∧Z2.Pairwise r:=by
   split
   .have H:=aEE f (P++V) L2 G Q (by omega) (by rintro rfl;simp at *;omega) (by rintro rfl;simp at *;omega) hn hq (λx O y U=>ha x (by simp[O]) y (by simp[U]));rw[qi,show mid+L2.length=mid+m-s by omega,show mid+m-s+G.length=m+(F.length+G.length) by omega] at H;simpa using H
   .refine⟨L2++G,by simp,List.Perm.refl _,?_⟩;by_cases H:L2=[]
    .subst H;simpa using hq
    .have h4:0<L2.length:=List.length_pos_iff.2 H;have:G=[]:=List.eq_nil_of_length_eq_zero (by omega);subst this;simpa using hn
  refine⟨V++Z2,by rw[qe];simp,?_,?_⟩
  .refine(hg.append h0).trans ?_;simp only[List.append_assoc];refine List.Perm.append_left L1 ?_;rw[←List.append_assoc,←List.append_assoc];exact List.Perm.append_right G List.perm_append_comm
  .refine List.pairwise_append.2 ⟨qh,qf,λu hu v hv=>?_⟩;rcases List.mem_append.1 (hg.mem_iff.1 hu) with hu|hu<;>rcases List.mem_append.1 (h0.mem_iff.1 hv) with hv|hv
   .exact qj u hu v hv
   .exact hA u hu v hv
   .exact hB u hu v hv
   .exact qk u hu v hv
theorem aEC:∀{A B:List Int},A.Perm B->A.Pairwise r->B.Pairwise r->A=B
 | [],B,h,_,_=>(List.Perm.nil_eq h).symm ▸ rfl
 |x::A,[],h,_,_=>by have _:=htr;have:=h.length_eq;simp at this
 | x::A,y::B,h,ha,hb=>by
  obtain⟨F,G⟩:=List.pairwise_cons.1 ha;obtain⟨H,I⟩:=List.pairwise_cons.1 hb;by_cases u:x=y
  .subst u;rw[aEC ((List.perm_cons x).1 h) G I]
  .exfalso
   have J:x∈B:=by
    have:=h.mem_iff.1 (List.mem_cons_self (a:=x) (l:=A));rcases List.mem_cons.1 this with h|h
    .exact absurd h u
    .exact h
   have h2:y∈A:=by
    have:=h.mem_iff.2 (List.mem_cons_self (a:=y) (l:=B));rcases List.mem_cons.1 this with h|h
    .exact absurd h.symm u
    .exact h
   exact has _ _ (F y h2) (H x J)
end
def stb (lt:Int->Int->Bool) (l:List Int):List Int:=
 if l.length<20 then qE lt 0 l.length l else
  let l1:=qE lt 20 l.length (qE lt 0 20 l)
  if 20<l.length then smg lt 40 0 20 l.length l1 else l1
theorem aGq (lt:Int->Int->Bool) (l:List Int):(stb lt l).length=l.length:=by
 unfold stb;split
 .rw[iF]
 .dsimp only;split
  .rw[oG,iF,iF]
  .rw[iF,iF]
theorem aK7 {lt:Int->Int->Bool}{r:Int->Int->Prop} (htr:∀x y z,r x y->r y z->r x z) (has:∀x y,r x y->¬r y x) {l:List Int} (hl:l.length<=40) (U:l.Pairwise (aDQ lt r)) :
  (stb lt l).Perm l∧(stb lt l).Pairwise r:=by
 unfold stb;split
 .obtain⟨Z,F,h2,G⟩:=aDj htr [] l [] U;simp only[List.length_nil,Nat.zero_add,List.append_nil,List.nil_append] at F;rw[F];exact⟨h2,G⟩
 .rename_i Y;dsimp only;obtain⟨A,B,rfl,H⟩:∃A B,l=A++B∧A.length=20:=⟨l.take 20,l.drop 20,by simp,by simp;omega⟩;obtain⟨p1,p2,p3⟩:=List.pairwise_append.1 U;obtain⟨I,F,h2,G⟩:=aDj htr [] A B p1;simp only[List.length_nil,Nat.zero_add,List.nil_append,H] at F;rw[F];have J:I.length=20:=by rw[h2.length_eq,H]
  obtain⟨L,M,u,V⟩:=aDj htr I B [] p2;simp only[List.append_nil,J] at M;rw[show(A++B).length=20+B.length by simp[H],M];split
  .have O:=aEE htr has 40 [] I L [] (by have:=u.length_eq;simp[H] at hl;omega) (by rintro rfl;simp at J) (by rintro rfl;have:=u.length_eq;simp at this;omega) G V
    (λx hx y hy=>p3 x (h2.mem_iff.1 hx) y (u.mem_iff.1 hy))
   simp only[List.length_nil,Nat.zero_add,List.append_nil,List.nil_append,J,u.length_eq] at O;obtain⟨Z,k1,k2,k3⟩:=O;rw[k1];exact⟨k2.trans (h2.append u),k3⟩
  .have:B=[]:=List.eq_nil_of_length_eq_zero (by omega);subst this;have:L=[]:=List.Perm.eq_nil u;subst this;simpa using⟨by simpa using h2,G⟩
end
end Go.Proofs.YtmiiohemehacjaaGreatDoor
