/- Symmetric merging of two sorted lists gives the one sorted list; the stable sort of at most forty. -/
set_option linter.all false
set_option maxHeartbeats 8000000
namespace Go.Proofs.YthbnjmgjhonfbaaGreat
section
def swp (l:List Int) (i j:Nat):List Int:=(l.set i (l.getD j 0)).set j (l.getD i 0)
theorem dV (l:List Int) (i j:Nat):(swp l i j).length=l.length:=by simp[swp]
theorem aBw (P M Q:List Int) (x y:Int):swp (P++x::(M++y::Q)) P.length (P.length+(M.length+1))=P++y::(M++x::Q):=by
 have h1:(P++x::(M++y::Q)).getD P.length 0=x:=by simp[List.getD]
 have h2:(P++x::(M++y::Q)).getD (P.length+(M.length+1)) 0=y:=by
  simp[List.getD,List.getElem?_append_right]
 rw[swp,h1,h2,List.set_append_right _ _ (Nat.le_refl _),Nat.sub_self,List.set_cons_zero,List.set_append_right _ _ (by omega)];rw[show P.length+(M.length+1)-P.length=M.length+1 by omega,List.set_cons_succ,List.set_append_right _ _ (Nat.le_refl _),Nat.sub_self,List.set_cons_zero]
theorem aEm (l:List Int) {i j:Nat} (h:i≠j):swp l i j=swp l j i:=by rw[swp,swp,List.set_comm _ _ h]
/-! ## insertion -/
def vX (lt:Int→Int→Bool) (a:Nat):Nat→List Int→List Int
 |0,l=>l
 |j+1,l=>if a<j+1∧lt (l.getD (j+1) 0) (l.getD j 0)=true then vX lt a j (swp l (j+1) j) else l
theorem wY (lt:Int→Int→Bool) (a:Nat):∀(j:Nat) (l:List Int),(vX lt a j l).length=l.length
 |0,l=>rfl
 | j+1,l=>by
  rw[vX];split
  ·rw[wY lt a j,dV]
  ·rfl
theorem aDg (lt:Int→Int→Bool) (a:Nat) (l:List Int):vX lt a a l=l:=by
 cases a with
 |zero=>rfl
 |succ a=>rw[vX,if_neg (by omega)]
def vK (lt:Int→Int→Bool) (a:Nat):Nat→Nat→List Int→List Int
 |0,_,l=>l
 |n+1,i,l=>vK lt a n (i+1) (vX lt a i l)
theorem aBf (lt:Int→Int→Bool) (a:Nat):∀(n i:Nat) (l:List Int),(vK lt a n i l).length=l.length
 |0,_,l=>rfl
 |n+1,i,l=>by rw[vK,aBf lt a n,wY]
def pV (lt:Int→Int→Bool) (a b:Nat) (l:List Int):List Int:=vK lt a (b-(a+1)) (a+1) l
theorem gZ (lt:Int→Int→Bool) (a b:Nat) (l:List Int):(pV lt a b l).length=l.length:=aBf ..
theorem aGS (lt:Int→Int→Bool) (P:List Int):∀(n:Nat) (S:List Int) (x:Int) (Q:List Int),S.length=n→
  ∃S1 S2,S=S1++S2∧vX lt P.length (P.length+n) (P++(S++x::Q))=P++(S1++x::(S2++Q))∧(∀e,e∈S2→lt x e=true)∧∀e,S1.getLast? = some e→lt x e=false
 | 0,S,x,Q,h=>by
  obtain rfl:=List.eq_nil_of_length_eq_zero h;exact⟨[],[],rfl,by rw[Nat.add_zero,aDg];rfl,by simp,by simp⟩
 | n+1,S,x,Q,h=>by
  rcases List.eq_nil_or_concat S with rfl|⟨S',e,rfl⟩
  ·simp at h
  ·simp only[List.concat_eq_append] at h⊢;have hn:S'.length=n:=by simpa using h
   have el:(P++((S'++[e])++x::Q)).getD (P.length+n+1) 0=x:=by
    rw[←hn];simp[List.getD,List.getElem?_append_right,Nat.add_assoc]
   have el2:(P++((S'++[e])++x::Q)).getD (P.length+n) 0=e:=by
    rw[←hn];simp[List.getD,List.getElem?_append_right]
   rw[←Nat.add_assoc,vX,el,el2];cases hlt:lt x e
   ·rw[if_neg (by simp)]
    exact ⟨S'++[e],[],by simp,by simp,by simp,fun e' he=>by
      rw[List.getLast?_concat] at he;obtain rfl:=Option.some.inj he;exact hlt⟩
   ·rw[if_pos ⟨by omega,rfl⟩]
    have hsw:swp (P++((S'++[e])++x::Q)) (P.length+n+1) (P.length+n)=P++(S'++x::(e::Q)):=by
     rw[aEm _ (by omega)];have:=aBw (P++S') [] Q e x;simp only[List.length_append,hn,List.length_nil,Nat.zero_add,List.nil_append,←Nat.add_assoc] at this;simpa using this
    rw[hsw];obtain⟨S1,S2,h1,h2,h3,h4⟩:=aGS lt P n S' x (e::Q) hn;refine⟨S1,S2++[e],by rw[h1];simp,by rw[h2];simp,fun z hz=>?_,h4⟩;rcases List.mem_append.1 hz with hz|hz
    ·exact h3 z hz
    ·obtain rfl:=List.mem_singleton.1 hz;exact hlt
def aCU (lt:Int→Int→Bool) (r:Int→Int→Prop) (e x:Int):Prop:=(lt x e=true↔r x e)∧(r e x∨r x e)
section
variable {lt:Int→Int→Bool}{r:Int→Int→Prop} (htr:∀x y z,r x y→r y z→r x z)
include htr
theorem aJb (P:List Int) {S:List Int}{x:Int} (Q:List Int) (hs:S.Pairwise r) (ha:∀e,e∈S→aCU lt r e x) :
  ∃Z,vX lt P.length (P.length+S.length) (P++(S++x::Q))=P++(Z++Q)∧Z.Perm (S++[x])∧Z.Pairwise r:=by
 obtain⟨S1,S2,rfl,h2,h3,h4⟩:=aGS lt P _ S x Q rfl;refine⟨S1++x::S2,by rw[h2];simp,?_,?_⟩
 ·have:(S1++x::S2).Perm (S1++(S2++[x])):=List.Perm.append_left S1 (List.perm_append_singleton x S2).symm;simpa using this
 ·obtain⟨p1,p2,p3⟩:=List.pairwise_append.1 hs;have hx2:∀e,e∈S2→r x e:=fun e he=>(ha e (by simp[he])).1.1 (h3 e he)
  have hx1:∀e,e∈S1→r e x:=by
   intro e he
   obtain ⟨l,hl⟩:∃l,S1.getLast? = some l:=by
    cases h:S1.getLast? with
    |none=>rw[List.getLast?_eq_none_iff] at h;rw[h] at he;cases he
    |some l=>exact⟨l,rfl⟩
   have hlm:l∈S1:=List.mem_of_getLast? hl;have hal:=ha l (by simp[hlm])
   have hlx:r l x:=by
    rcases hal.2 with h|h
    ·exact h
    ·have:=hal.1.2 h;rw[h4 l hl] at this;cases this
   obtain⟨S0,rfl⟩:=List.getLast?_eq_some_iff.1 hl;rcases List.mem_append.1 he with he|he
   ·exact htr _ _ _ ((List.pairwise_append.1 p1).2.2 e he l (by simp)) hlx
   ·obtain rfl:=List.mem_singleton.1 he;exact hlx
  refine List.pairwise_append.2 ⟨p1,List.pairwise_cons.2 ⟨hx2,p2⟩,fun e he z hz=>?_⟩;rcases List.mem_cons.1 hz with rfl|hz
  ·exact hx1 e he
  ·exact p3 e he z hz
theorem aE4 (P:List Int):∀(X S Q:List Int),S.Pairwise r→(∀e,e∈S→∀x,x∈X→aCU lt r e x)→X.Pairwise (aCU lt r)→
  ∃Z,vK lt P.length X.length (P.length+S.length) (P++(S++(X++Q)))=P++(Z++Q)∧Z.Perm (S++X)∧Z.Pairwise r
 | [],S,Q,hs,_,_=>⟨S,by simp[vK],by simp,hs⟩
 | x::X,S,Q,hs,ha,hp=>by
  obtain⟨Z0,h1,h2,h3⟩:=aJb htr P (X++Q) hs (fun e he=>ha e he x (by simp));have hlen:Z0.length=S.length+1:=by simpa using h2.length_eq
  obtain⟨hp1,hp2⟩:=List.pairwise_cons.1 hp
  obtain ⟨Z,h4,h5,h6⟩:=aE4 P X Z0 Q h3 (fun e he y hy=>by
    rcases List.mem_append.1 (h2.mem_iff.1 he) with h|h
    · exact ha e h y (by simp[hy])
    · obtain rfl:=List.mem_singleton.1 h;exact hp1 y hy) hp2
  refine⟨Z,?_,?_,h6⟩
  ·simp only[List.length_cons,vK,List.cons_append];rw[h1,←h4,hlen,Nat.add_assoc]
  ·refine h5.trans ((List.Perm.append_right X h2).trans ?_);simp
theorem aCg (P X Q:List Int) (hp:X.Pairwise (aCU lt r)):∃Z,pV lt P.length (P.length+X.length) (P++(X++Q))=P++(Z++Q)∧Z.Perm X∧Z.Pairwise r:=by
 cases X with
 |nil=>exact⟨[],by simp[pV,show P.length-(P.length+1)=0 by omega,vK],by simp,by simp⟩
 | cons x X =>
  obtain⟨hp1,hp2⟩:=List.pairwise_cons.1 hp;obtain⟨Z,h1,h2,h3⟩:=aE4 htr P X [x] Q (by simp) (fun e he y hy=>by obtain rfl:=List.mem_singleton.1 he;exact hp1 y hy) hp2;refine⟨Z,?_,by simpa using h2,h3⟩;rw[pV,show P.length+(x::X).length-(P.length+1)=X.length by simp;omega];simpa using h1
end
/-! ## searching -/
def bs (p:Nat→Bool) (i j:Nat):Nat:=if h:i<j then(if p ((i+j)/2)=true then bs p ((i+j)/2+1) j else bs p i ((i+j)/2)) else i
termination_by j-i
theorem sP (p:Nat→Bool) {i j:Nat} (h:¬i<j):bs p i j=i:=by rw[bs,dif_neg h]
theorem aA3 (p:Nat→Bool) {i j:Nat} (h:i<j) (hp:p ((i+j)/2)=true):bs p i j=bs p ((i+j)/2+1) j:=by rw[bs,dif_pos h,if_pos hp]
theorem aDy (p:Nat→Bool) {i j:Nat} (h:i<j) (hp:p ((i+j)/2)=false):bs p i j=bs p i ((i+j)/2):=by rw[bs,dif_pos h,if_neg (by simp[hp])]
theorem aFk (p:Nat→Bool):∀(n i j:Nat),j-i≤n→i≤j→(∀c d,i≤c→c≤d→d<j→p d=true→p c=true)→
  (i≤bs p i j∧bs p i j≤j)∧(∀c,i≤c→c<bs p i j→p c=true)∧∀c,bs p i j≤c→c<j→p c=false
 | 0,i,j,h,hij,hm=>by
  rw[sP p (by omega)];exact⟨by omega,fun c h1 h2=>by omega,fun c h1 h2=>by omega⟩
 | n+1,i,j,h,hij,hm=>by
  by_cases hlt:i<j
  ·cases hp:p ((i+j)/2)
   ·rw[aDy p hlt hp];obtain⟨h1,h2,h3⟩:=aFk p n i ((i+j)/2) (by omega) (by omega) fun c d a b e=>hm c d a b (by omega);refine⟨by omega,h2,fun c hc hcj=>?_⟩;by_cases hc2:c<(i+j)/2
    ·exact h3 c hc hc2
    ·cases hpc:p c with
     |false=>rfl
     |true=>rw[hm ((i+j)/2) c (by omega) (by omega) hcj hpc] at hp;cases hp
   ·rw[aA3 p hlt hp];obtain⟨h1,h2,h3⟩:=aFk p n ((i+j)/2+1) j (by omega) (by omega) fun c d a b e=>hm c d (by omega) b e;refine⟨by omega,fun c hc hcj=>?_,h3⟩;by_cases hc2:c≤(i+j)/2
    ·exact hm c _ hc hc2 (by omega) hp
    ·exact h2 c (by omega) hcj
  ·rw[sP p hlt];exact⟨by omega,fun c h1 h2=>by omega,fun c h1 h2=>by omega⟩
/-! ## moving -/
def mvU:Nat→Nat→List Int→List Int
 |0,_,l=>l
 |n+1,k,l=>mvU n (k+1) (swp l k (k+1))
def mvD:Nat→Nat→List Int→List Int
 |0,_,l=>l
 |n+1,k,l=>mvD n (k-1) (swp l k (k-1))
def swR:Nat→Nat→Nat→List Int→List Int
 |0,_,_,l=>l
 |n+1,a,b,l=>swR n (a+1) (b+1) (swp l a b)
def rot (m:Nat):Nat→Nat→Nat→List Int→List Int
 |0,_,_,l=>l
 |f+1,i,j,l=>if i=j then swR i (m-i) m l else if j<i then rot m f (i-j) j (swR j (m-i) m l) else rot m f i (j-i) (swR i (m-i) (m+j-i) l)
theorem aB7:∀(n k:Nat) (l:List Int),(mvU n k l).length=l.length
 |0,_,_=>rfl
 |n+1,k,l=>by rw[mvU,aB7 n,dV]
theorem aB8:∀(n k:Nat) (l:List Int),(mvD n k l).length=l.length
 |0,_,_=>rfl
 |n+1,k,l=>by rw[mvD,aB8 n,dV]
theorem kI:∀(n a b:Nat) (l:List Int),(swR n a b l).length=l.length
 |0,_,_,_=>rfl
 |n+1,a,b,l=>by rw[swR,kI n,dV]
theorem nX (m:Nat):∀(f i j:Nat) (l:List Int),(rot m f i j l).length=l.length
 |0,_,_,_=>rfl
 | f+1,i,j,l=>by
  rw[rot];split
  ·rw[kI]
  ·split
   ·rw[nX m f,kI]
   ·rw[nX m f,kI]
theorem aIS:∀(R P Q:List Int) (x:Int),mvU R.length P.length (P++x::(R++Q))=P++(R++x::Q)
 | [],P,Q,x=>rfl
 | y::R,P,Q,x=>by
  have:=aBw P [] (R++Q) x y;simp only[List.length_nil,List.nil_append,Nat.zero_add] at this;simp only[List.length_cons,mvU,List.cons_append];rw[this];have h2:=aIS R (P++[y]) Q x;simp only[List.length_append,List.length_cons,List.length_nil,Nat.zero_add,List.append_assoc,List.cons_append,List.nil_append] at h2;exact h2
theorem aIU (P:List Int):∀(n:Nat) (L Q:List Int) (y:Int),L.length=n→mvD n (P.length+n) (P++(L++y::Q))=P++(y::(L++Q))
 | 0,L,Q,y,h=>by
  obtain rfl:=List.eq_nil_of_length_eq_zero h;rfl
 | n+1,L,Q,y,h=>by
  rcases List.eq_nil_or_concat L with rfl|⟨L',e,rfl⟩
  ·simp at h
  ·simp only[List.concat_eq_append] at h⊢;have hn:L'.length=n:=by simpa using h
   have hsw:swp (P++((L'++[e])++y::Q)) (P.length+(n+1)) (P.length+n)=P++(L'++y::(e::Q)):=by
    rw[aEm _ (by omega)];have:=aBw (P++L') [] Q e y;simp only[List.length_append,hn,List.length_nil,Nat.zero_add,List.nil_append] at this;simpa[Nat.add_assoc] using this
   rw[mvD,show P.length+(n+1)-1=P.length+n by omega,hsw,aIU P n L' (e::Q) y hn];simp
theorem aDG:∀(X Y P M Q:List Int),X.length=Y.length→swR X.length P.length (P.length+X.length+M.length) (P++(X++(M++(Y++Q))))=P++(Y++(M++(X++Q)))
 | [],Y,P,M,Q,h=>by
  obtain rfl:=List.eq_nil_of_length_eq_zero h.symm;rfl
 |x::X,[],P,M,Q,h=>by simp at h
 | x::X,y::Y,P,M,Q,h=>by
  have hn:X.length=Y.length:=by simpa using h
  have hsw:=aBw P (X++M) (Y++Q) x y;simp only[List.length_append,List.append_assoc] at hsw;simp only[List.length_cons,swR,List.cons_append];rw[show P.length+(X.length+1)+M.length=P.length+(X.length+M.length+1) by omega,hsw];have h2:=aDG X Y (P++[y]) (M++[x]) Q hn;simp only[List.length_append,List.length_cons,List.length_nil,Nat.zero_add,List.append_assoc,List.cons_append,List.nil_append] at h2;rw[show P.length+(X.length+M.length+1)+1=P.length+1+X.length+(M.length+1) by omega,h2]
theorem aFE (m:Nat):∀(f:Nat) (X Y P Q:List Int),X.length+Y.length≤f→X≠[]→Y≠[]→m=P.length+X.length→
  rot m f X.length Y.length (P++(X++(Y++Q)))=P++(Y++(X++Q))
 | 0,X,Y,P,Q,hf,hx,_,_=>by
  exact absurd (List.eq_nil_of_length_eq_zero (by omega:X.length=0)) hx
 | f+1,X,Y,P,Q,hf,hx,hy,hm=>by
  have hx0:0<X.length:=List.length_pos_iff.2 hx;have hy0:0<Y.length:=List.length_pos_iff.2 hy;rw[rot];split
  ·rename_i he;have:=aDG X Y P [] Q he;simp only[List.length_nil,Nat.add_zero,List.nil_append] at this;rw[show m-X.length=P.length by omega,hm];exact this
  ·rename_i hne;split
   ·rename_i hlt;obtain⟨X1,X2,rfl,h1⟩:∃X1 X2,X=X1++X2∧X1.length=Y.length:=⟨X.take Y.length,X.drop Y.length,by simp,by simp;omega⟩;have h2:(X1++X2).length=X1.length+X2.length:=by simp
    have:=aDG X1 Y P X2 Q h1;have hx2:X2≠[]:=by rintro rfl;simp at hlt;omega
    rw[show m-(X1++X2).length=P.length by omega,←h1,hm,h2,List.append_assoc X1 X2,←Nat.add_assoc,this,show X1.length+X2.length-X1.length=X2.length by omega];have h3:=aFE (P.length+X1.length+X2.length) f X2 X1 (P++Y) Q (by omega) hx2 (by rintro rfl;simp at h1;omega) (by simp;omega);simp only[List.append_assoc] at h3;rw[h3,List.append_assoc]
   ·obtain⟨Y1,Y2,rfl,h1⟩:∃Y1 Y2,Y=Y1++Y2∧Y2.length=X.length:=⟨Y.take (Y.length-X.length),Y.drop (Y.length-X.length),by simp,by simp;omega⟩;have h2:(Y1++Y2).length=Y1.length+Y2.length:=by simp
    have:=aDG X Y2 P Y1 Q h1.symm;have hy1:Y1≠[]:=by rintro rfl;simp at hne;omega
    rw[h2,h1,show m-X.length=P.length by omega,show m+(Y1.length+X.length)-X.length=P.length+X.length+Y1.length by omega,List.append_assoc Y1 Y2,this,show Y1.length+X.length-X.length=Y1.length by omega];have h3:=aFE m f Y2 Y1 P (X++Q) (by omega) (by rintro rfl;simp at h1;omega) hy1 (by omega);rw[h1] at h3;rw[h3]
    try simp
/-! ## merging -/
def smg (lt:Int→Int→Bool):Nat→Nat→Nat→Nat→List Int→List Int
 |0,_,_,_,l=>l
 | f+1,a,m,b,l =>
  if m-a=1 then mvU (bs (fun h=>lt (l.getD h 0) (l.getD a 0)) m b-1-a) a l
  else if b-m=1 then mvD (m-bs (fun h=>!lt (l.getD m 0) (l.getD h 0)) a m) m l
  else
   let mid:=(a+b)/2
   let s:=bs (fun c=>!lt (l.getD (mid+m-1-c) 0) (l.getD c 0)) (if mid<m then mid+m-b else a) (if mid<m then mid else m)
   let l1:=if s<m∧m<mid+m-s then rot m (mid+m-s-s) (m-s) (mid+m-s-m) l else l
   let l2:=if a<s∧s<mid then smg lt f a s mid l1 else l1
   if mid<mid+m-s∧mid+m-s<b then smg lt f mid (mid+m-s) b l2 else l2
theorem nL (lt:Int→Int→Bool):∀(f a m b:Nat) (l:List Int),(smg lt f a m b l).length=l.length
 |0,_,_,_,_=>rfl
 | f+1,a,m,b,l=>by
  rw[smg];split
  ·rw[aB7]
  ·split
   ·rw[aB8]
   ·dsimp only
    repeat' split
    all_goals simp only[nL lt f,nX]
theorem get_at {P L R:List Int}{i:Nat} (hi:i<L.length):(P++(L++R)).getD (P.length+i) 0=L.getD i 0:=by
 simp[List.getD,List.getElem?_append_right,List.getElem?_append_left hi]
theorem wR {r:Int→Int→Prop}{L:List Int} (h:L.Pairwise r) {i j:Nat} (hij:i<j) (hj:j<L.length):r (L.getD i 0) (L.getD j 0):=by
 have:=List.pairwise_iff_getElem.1 h i j (by omega) hj hij;simpa[List.getD,hj,show i<L.length by omega] using this
theorem fG {L:List Int}{i:Nat} (hi:i<L.length):L.getD i 0∈L:=by simp[List.getD,hi]
theorem kS {L:List Int}{x:Int} (h:x∈L):∃i,i<L.length∧L.getD i 0=x:=by
 obtain⟨i,hi,rfl⟩:=List.mem_iff_getElem.1 h;exact⟨i,hi,by simp[List.getD,hi]⟩
section
variable {lt:Int→Int→Bool}{r:Int→Int→Prop} (htr:∀x y z,r x y→r y z→r x z) (has:∀x y,r x y→¬r y x)
include has
theorem uU {e x:Int} (h:aCU lt r e x):lt x e=false↔r e x:=by
 constructor
 ·intro hf;rcases h.2 with h2|h2
  ·exact h2
  ·rw[h.1.2 h2] at hf;cases hf
 ·intro hr;cases hl:lt x e with
  |false=>rfl
  |true=>exact absurd (h.1.1 hl) (has _ _ hr)
include htr
theorem aKc (P R Q:List Int) (x:Int) (hR:R.Pairwise r) (ha:∀y,y∈R→aCU lt r x y) :
  ∃Z,mvU (bs (fun h=>lt ((P++(x::(R++Q))).getD h 0) ((P++(x::(R++Q))).getD P.length 0)) (P.length+1) (P.length+1+R.length)-1-P.length) P.length (P++(x::(R++Q)))=P++(Z++Q)∧Z.Perm (x::R)∧Z.Pairwise r:=by
 have ex:(P++(x::(R++Q))).getD P.length 0=x:=by simp[List.getD]
 have er:∀i,i<R.length→(P++(x::(R++Q))).getD (P.length+1+i) 0=R.getD i 0:=by
  intro i hi;have:=get_at (P:=P++[x]) (R:=Q) hi;simpa using this
 rw[ex];have hmem:∀i,i<R.length→(lt (R.getD i 0) x=true↔r (R.getD i 0) x):=fun i hi=>(ha _ (fG hi)).1
 obtain ⟨h1,h2,h3⟩:=aFk (fun h=>lt ((P++(x::(R++Q))).getD h 0) x) _ (P.length+1) (P.length+1+R.length) (Nat.le_refl _) (by omega) (by
   intro c d hc hcd hd hp;obtain⟨i,rfl⟩:∃i,c=P.length+1+i:=⟨c-(P.length+1),by omega⟩;obtain⟨j,rfl⟩:∃j,d=P.length+1+j:=⟨d-(P.length+1),by omega⟩
   try simp only at hp⊢
   rw[er j (by omega)] at hp;rw[er i (by omega)];by_cases hij:i=j
   · subst hij;exact hp
   · exact(hmem i (by omega)).2 (htr _ _ _ (wR hR (by omega) (by omega)) ((hmem j (by omega)).1 hp)))
 generalize bs (fun h=>lt ((P++(x::(R++Q))).getD h 0) x) (P.length+1) (P.length+1+R.length)=s at *
 obtain⟨k,rfl⟩:∃k,s=P.length+1+k:=⟨s-(P.length+1),by omega⟩;have hk:k≤R.length:=by omega
 have hR':R=R.take k++R.drop k:=(List.take_append_drop k R).symm;have hlen:(R.take k).length=k:=by simp;omega
 refine⟨R.take k++x::R.drop k,?_,?_,?_⟩
 ·have:=aIS (R.take k) P (R.drop k++Q) x;rw[hlen,←List.append_assoc,List.take_append_drop] at this;rw[show P.length+1+k-1-P.length=k by omega,this];simp
 ·have h4:(R.take k++x::R.drop k).Perm (x::(R.take k++R.drop k)):=List.perm_middle;rw[List.take_append_drop] at h4;exact h4
 ·have hp:=hR;rw[hR'] at hp;obtain⟨p1,p2,p3⟩:=List.pairwise_append.1 hp
  have hx1:∀e,e∈R.take k→r e x:=by
   intro e he;obtain⟨i,hi,rfl⟩:=kS he;rw[hlen] at hi;have h5:=h2 (P.length+1+i) (by omega) (by omega)
   try simp only at h5
   rw[er i (by omega)] at h5;have:(R.take k).getD i 0=R.getD i 0:=by simp[List.getD,List.getElem?_take,hi]
   rw[this];exact(hmem i (by omega)).1 h5
  have hx2:∀e,e∈R.drop k→r x e:=by
   intro e he;obtain⟨i,hi,rfl⟩:=kS he;simp only[List.length_drop] at hi;have h5:=h3 (P.length+1+(k+i)) (by omega) (by omega)
   try simp only at h5
   rw[er (k+i) (by omega)] at h5;have:(R.drop k).getD i 0=R.getD (k+i) 0:=by simp[List.getD,List.getElem?_drop]
   rw[this];exact(uU has (ha _ (fG (by omega)))).1 h5
  refine List.pairwise_append.2 ⟨p1,List.pairwise_cons.2 ⟨hx2,p2⟩,fun e he z hz=>?_⟩;rcases List.mem_cons.1 hz with rfl|hz
  ·exact hx1 e he
  ·exact p3 e he z hz
theorem aIj (P L Q:List Int) (y:Int) (hL:L.Pairwise r) (ha:∀x,x∈L→aCU lt r x y) :
  ∃Z,mvD (P.length+L.length-bs (fun h=>!lt ((P++(L++(y::Q))).getD (P.length+L.length) 0) ((P++(L++(y::Q))).getD h 0)) P.length (P.length+L.length)) (P.length+L.length) (P++(L++(y::Q)))=P++(Z++Q)∧Z.Perm (L++[y])∧Z.Pairwise r:=by
 have ey:(P++(L++(y::Q))).getD (P.length+L.length) 0=y:=by
  simp[List.getD,List.getElem?_append_right]
 have el:∀i,i<L.length→(P++(L++(y::Q))).getD (P.length+i) 0=L.getD i 0:=fun i hi=>get_at hi;rw[ey];have hmem:∀i,i<L.length→(lt y (L.getD i 0)=false↔r (L.getD i 0) y):=fun i hi=>uU has (ha _ (fG hi))
 obtain ⟨h1,h2,h3⟩:=aFk (fun h=>!lt y ((P++(L++(y::Q))).getD h 0)) _ P.length (P.length+L.length) (Nat.le_refl _) (by omega) (by
   intro c d hc hcd hd hp;obtain⟨i,rfl⟩:∃i,c=P.length+i:=⟨c-P.length,by omega⟩;obtain⟨j,rfl⟩:∃j,d=P.length+j:=⟨d-P.length,by omega⟩;simp only[Bool.not_eq_true'] at hp⊢;rw[el j (by omega)] at hp;rw[el i (by omega)];by_cases hij:i=j
   · subst hij;exact hp
   · exact(hmem i (by omega)).2 (htr _ _ _ (wR hL (by omega) (by omega)) ((hmem j (by omega)).1 hp)))
 generalize bs (fun h=>!lt y ((P++(L++(y::Q))).getD h 0)) P.length (P.length+L.length)=s at *
 obtain⟨k,rfl⟩:∃k,s=P.length+k:=⟨s-P.length,by omega⟩;have hk:k≤L.length:=by omega
 have hL':L=L.take k++L.drop k:=(List.take_append_drop k L).symm;have hlen:(L.take k).length=k:=by simp;omega
 have hlen2:(L.drop k).length=L.length-k:=by simp
 refine⟨L.take k++y::L.drop k,?_,?_,?_⟩
 ·have:=aIU (P++L.take k) (L.length-k) (L.drop k) Q y hlen2;simp only[List.length_append,hlen,List.append_assoc] at this;rw[←List.append_assoc (L.take k),List.take_append_drop,show P.length+k+(L.length-k)=P.length+L.length by omega] at this;rw[show P.length+L.length-(P.length+k)=L.length-k by omega,this];simp
 ·have h4:(L.take k++y::L.drop k).Perm (y::(L.take k++L.drop k)):=List.perm_middle;rw[List.take_append_drop] at h4;exact h4.trans (List.perm_append_singleton y L).symm
 ·have hp:=hL;rw[hL'] at hp;obtain⟨p1,p2,p3⟩:=List.pairwise_append.1 hp
  have hx1:∀e,e∈L.take k→r e y:=by
   intro e he;obtain⟨i,hi,rfl⟩:=kS he;rw[hlen] at hi;have h5:=h2 (P.length+i) (by omega) (by omega);simp only[Bool.not_eq_true'] at h5;rw[el i (by omega)] at h5;have:(L.take k).getD i 0=L.getD i 0:=by simp[List.getD,List.getElem?_take,hi]
   rw[this];exact(hmem i (by omega)).1 h5
  have hx2:∀e,e∈L.drop k→r y e:=by
   intro e he;obtain⟨i,hi,rfl⟩:=kS he;simp only[List.length_drop] at hi;have h5:=h3 (P.length+(k+i)) (by omega) (by omega);simp only[Bool.not_eq_false'] at h5;rw[el (k+i) (by omega)] at h5;have:(L.drop k).getD i 0=L.getD (k+i) 0:=by simp[List.getD,List.getElem?_drop]
   rw[this];exact(ha _ (fG (by omega))).1.1 h5
  refine List.pairwise_append.2 ⟨p1,List.pairwise_cons.2 ⟨hx2,p2⟩,fun e he z hz=>?_⟩;rcases List.mem_cons.1 hz with rfl|hz
  ·exact hx1 e he
  ·exact p3 e he z hz
end
end
section
section
variable {lt:Int→Int→Bool}{r:Int→Int→Prop} (htr:∀x y z,r x y→r y z→r x z) (has:∀x y,r x y→¬r y x)
include htr has
theorem aDJ:∀(f:Nat) (P L R Q:List Int),L.length+R.length≤f→L≠[]→R≠[]→L.Pairwise r→R.Pairwise r→(∀x,x∈L→∀y,y∈R→aCU lt r x y)→
  ∃Z,smg lt f P.length (P.length+L.length) (P.length+L.length+R.length) (P++(L++(R++Q)))=P++(Z++Q)∧Z.Perm (L++R)∧Z.Pairwise r
 |0,P,L,R,Q,hf,hl,_,_,_,_=>absurd (List.eq_nil_of_length_eq_zero (by omega:L.length=0)) hl
 | f+1,P,L,R,Q,hf,hl,hr,hL,hR,ha=>by
  have hl0:0<L.length:=List.length_pos_iff.2 hl;have hr0:0<R.length:=List.length_pos_iff.2 hr;rw[smg];by_cases h1:L.length=1
  ·rw[if_pos (by omega)];obtain⟨x,rfl⟩:=List.length_eq_one_iff.1 h1;have:=aKc htr has P R Q x hR (fun y hy=>ha x (by simp) y hy);simpa using this
  rw[if_neg (by omega)];by_cases h2:R.length=1
  ·rw[if_pos (by omega)];obtain⟨y,rfl⟩:=List.length_eq_one_iff.1 h2;have:=aIj htr has P L Q y hL (fun x hx=>ha x hx y (by simp));simpa using this
  rw[if_neg (by omega)];dsimp only;have eL:∀i,i<L.length→(P++(L++(R++Q))).getD (P.length+i) 0=L.getD i 0:=fun i hi=>get_at hi
  have eR:∀j,j<R.length→(P++(L++(R++Q))).getD (P.length+L.length+j) 0=R.getD j 0:=by
   intro j hj;have:=get_at (P:=P++L) (R:=Q) hj;simpa using this
  generalize hmid:(P.length+(P.length+L.length+R.length))/2=mid;have hm1:2*mid≤P.length+(P.length+L.length+R.length)∧P.length+(P.length+L.length+R.length)≤2*mid+1:=by omega
  generalize hm:P.length+L.length=m at *
  generalize hlo:(if mid<m then mid+m-(m+R.length) else P.length)=lo;generalize hhi:(if mid<m then mid else m)=hi
  have hlh:P.length≤lo∧lo≤hi∧hi≤m∧hi≤mid∧mid+m-lo≤m+R.length∧(mid<m→lo=mid-R.length∧hi=mid)∧(¬mid<m→lo=P.length∧hi=m):=by
   by_cases h:mid<m
   ·rw[if_pos h] at hlo hhi;omega
   ·rw[if_neg h] at hlo hhi;omega
  obtain⟨b1,b2,b3,b4,b5,b6,b7⟩:=hlh
  have ask:∀c,lo≤c→c<hi→∃i j,c=P.length+i∧mid+m-1-c=m+j∧i<L.length∧j<R.length∧(P++(L++(R++Q))).getD c 0=L.getD i 0∧(P++(L++(R++Q))).getD (mid+m-1-c) 0=R.getD j 0:=by
   intro c h3 h4;refine⟨c-P.length,mid+m-1-c-m,by omega,by omega,by omega,by omega,?_,?_⟩
   ·rw[←eL _ (by omega)];congr 1;omega
   ·rw[←eR _ (by omega)];congr 1;omega
  have hmono:∀c d,lo≤c→c≤d→d<hi→(fun c=>!lt ((P++(L++(R++Q))).getD (mid+m-1-c) 0) ((P++(L++(R++Q))).getD c 0)) d=true→(fun c=>!lt ((P++(L++(R++Q))).getD (mid+m-1-c) 0) ((P++(L++(R++Q))).getD c 0)) c=true:=by
   intro c d h3 h4 h5 hp;obtain⟨i,j,e1,e2,e3,e4,e5,e6⟩:=ask c h3 (by omega);obtain⟨i',j',e1',e2',e3',e4',e5',e6'⟩:=ask d (by omega) h5;simp only[Bool.not_eq_true'] at hp⊢;rw[e5',e6',uU has (ha _ (fG e3') _ (fG e4'))] at hp;rw[e5,e6,uU has (ha _ (fG e3) _ (fG e4))];by_cases hcd:c=d
   ·have:i=i':=by omega
    have:j=j':=by omega
    subst_vars;assumption
   ·exact htr _ _ _ (htr _ _ _ (wR hL (by omega:i<i') e3') hp) (wR hR (by omega:j'<j) e4)
  obtain⟨s1,s2,s3⟩:=aFk (fun c=>!lt ((P++(L++(R++Q))).getD (mid+m-1-c) 0) ((P++(L++(R++Q))).getD c 0)) _ lo hi (Nat.le_refl _) b2 hmono;generalize bs (fun c=>!lt ((P++(L++(R++Q))).getD (mid+m-1-c) 0) ((P++(L++(R++Q))).getD c 0)) lo hi=s at *
  obtain⟨L1,L2,rfl,hL1⟩:∃L1 L2,L=L1++L2∧L1.length=s-P.length:=⟨L.take (s-P.length),L.drop (s-P.length),by simp,by simp;omega⟩;obtain⟨R1,R2,rfl,hR1⟩:∃R1 R2,R=R1++R2∧R1.length=mid-s:=⟨R.take (mid-s),R.drop (mid-s),by simp,by simp;omega⟩;simp only[List.length_append] at *
  obtain⟨pl1,pl2,pl3⟩:=List.pairwise_append.1 hL;obtain⟨pr1,pr2,pr3⟩:=List.pairwise_append.1 hR
  have hA:∀x,x∈L1→∀y,y∈R2→r x y:=by
   intro x hx y hy;have h3:0<L1.length:=List.length_pos_of_mem hx;have h4:0<R2.length:=List.length_pos_of_mem hy
   have hlo2:lo≤s-1:=by
    by_cases h:mid<m
    ·have:=(b6 h).1;omega
    ·have:=(b7 h).1;omega
   obtain⟨i,j,e1,e2,e3,e4,e5,e6⟩:=ask (s-1) hlo2 (by omega);have h5:=s2 (s-1) hlo2 (by omega);simp only[Bool.not_eq_true'] at h5;rw[e5,e6,uU has (ha _ (fG (by simpa using e3)) _ (fG (by simpa using e4)))] at h5
   have g1:(L1++L2).getD i 0=L1.getD (L1.length-1) 0:=by
    rw[show i=L1.length-1 by omega];simp[List.getD,List.getElem?_append_left (show L1.length-1<L1.length by omega)]
   have g2:(R1++R2).getD j 0=R2.getD 0 0:=by
    rw[show j=R1.length by omega];simp[List.getD,List.getElem?_append_right]
   rw[g1,g2] at h5;obtain⟨i',hi',rfl⟩:=kS hx;obtain⟨j',hj',rfl⟩:=kS hy
   have h6:i'=L1.length-1∨r (L1.getD i' 0) (L1.getD (L1.length-1) 0):=by
    by_cases h:i'=L1.length-1
    ·exact .inl h
    ·exact .inr (wR pl1 (by omega) (by omega))
   have h7:j'=0∨r (R2.getD 0 0) (R2.getD j' 0):=by
    by_cases h:j'=0
    ·exact .inl h
    ·exact .inr (wR pr2 (by omega) (by omega))
   rcases h6 with h6|h6<;>rcases h7 with h7|h7
   ·rw[h6,h7];exact h5
   ·rw[h6];exact htr _ _ _ h5 h7
   ·rw[h7];exact htr _ _ _ h6 h5
   ·exact htr _ _ _ h6 (htr _ _ _ h5 h7)
  have hB:∀y,y∈R1→∀x,x∈L2→r y x:=by
   intro y hy x hx;have h3:0<L2.length:=List.length_pos_of_mem hx;have h4:0<R1.length:=List.length_pos_of_mem hy
   have hhi2:s<hi:=by
    by_cases h:mid<m
    ·have:=(b6 h).2;omega
    ·have:=(b7 h).2;omega
   obtain⟨i,j,e1,e2,e3,e4,e5,e6⟩:=ask s (by omega) hhi2;have h5:=s3 s (by omega) hhi2;simp only[Bool.not_eq_false'] at h5;rw[e5,e6,(ha _ (fG (by simpa using e3)) _ (fG (by simpa using e4))).1] at h5
   have g1:(L1++L2).getD i 0=L2.getD 0 0:=by
    rw[show i=L1.length by omega];simp[List.getD,List.getElem?_append_right]
   have g2:(R1++R2).getD j 0=R1.getD (R1.length-1) 0:=by
    rw[show j=R1.length-1 by omega];simp[List.getD,List.getElem?_append_left (show R1.length-1<R1.length by omega)]
   rw[g1,g2] at h5;obtain⟨i',hi',rfl⟩:=kS hx;obtain⟨j',hj',rfl⟩:=kS hy
   have h6:j'=R1.length-1∨r (R1.getD j' 0) (R1.getD (R1.length-1) 0):=by
    by_cases h:j'=R1.length-1
    ·exact .inl h
    ·exact .inr (wR pr1 (by omega) (by omega))
   have h7:i'=0∨r (L2.getD 0 0) (L2.getD i' 0):=by
    by_cases h:i'=0
    ·exact .inl h
    ·exact .inr (wR pl2 (by omega) (by omega))
   rcases h6 with h6|h6<;>rcases h7 with h7|h7
   ·rw[h6,h7];exact h5
   ·rw[h6];exact htr _ _ _ h5 h7
   ·rw[h7];exact htr _ _ _ h6 h5
   ·exact htr _ _ _ h6 (htr _ _ _ h5 h7)
  have hrot:(if s<m∧m<mid+m-s then rot m (mid+m-s-s) (m-s) (mid+m-s-m) (P++(L1++L2++(R1++R2++Q))) else P++(L1++L2++(R1++R2++Q)))=P++(L1++(R1++(L2++(R2++Q)))):=by
   split
   ·have h3:=aFE m (mid+m-s-s) L2 R1 (P++L1) (R2++Q) (by omega) (by rintro rfl;simp at *;omega) (by rintro rfl;simp at *;omega) (by simp;omega);rw[show m-s=L2.length by omega,show mid+m-s-m=R1.length by omega];simpa using h3
   ·by_cases h3:L2=[]
    ·subst h3;simp
    ·have h4:0<L2.length:=List.length_pos_iff.2 h3;have:R1=[]:=List.eq_nil_of_length_eq_zero (by omega);subst this;simp
  rw[hrot]
  obtain ⟨Z1,hz1,hz2,hz3⟩:∃Z1,(if P.length<s∧s<mid then smg lt f P.length s mid (P++(L1++(R1++(L2++(R2++Q))))) else P++(L1++(R1++(L2++(R2++Q)))))=P++(Z1++(L2++(R2++Q)))∧Z1.Perm (L1++R1)∧Z1.Pairwise r:=by
   split
   ·have h3:=aDJ f P L1 R1 (L2++(R2++Q)) (by omega) (by rintro rfl;simp at *;omega) (by rintro rfl;simp at *;omega) pl1 pr1 (fun x hx y hy=>ha x (by simp[hx]) y (by simp[hy]));rw[show P.length+L1.length=s by omega,show s+R1.length=mid by omega] at h3;exact h3
   ·refine⟨L1++R1,by simp,List.Perm.refl _,?_⟩;by_cases h3:L1=[]
    ·subst h3;simpa using pr1
    ·have h4:0<L1.length:=List.length_pos_iff.2 h3;have:R1=[]:=List.eq_nil_of_length_eq_zero (by omega);subst this;simpa using pl1
  rw[hz1];have hzl:(P++Z1).length=mid:=by have:=hz2.length_eq;simp at this⊢;omega
  obtain ⟨Z2,hw1,hw2,hw3⟩:∃Z2,(if mid<mid+m-s∧mid+m-s<m+(R1.length+R2.length) then smg lt f mid (mid+m-s) (m+(R1.length+R2.length)) (P++(Z1++(L2++(R2++Q)))) else P++(Z1++(L2++(R2++Q))))=P++(Z1++(Z2++Q))∧Z2.Perm (L2++R2)∧Z2.Pairwise r:=by
   split
   ·have h3:=aDJ f (P++Z1) L2 R2 Q (by omega) (by rintro rfl;simp at *;omega) (by rintro rfl;simp at *;omega) pl2 pr2 (fun x hx y hy=>ha x (by simp[hx]) y (by simp[hy]));rw[hzl,show mid+L2.length=mid+m-s by omega,show mid+m-s+R2.length=m+(R1.length+R2.length) by omega] at h3;simpa using h3
   ·refine⟨L2++R2,by simp,List.Perm.refl _,?_⟩;by_cases h3:L2=[]
    ·subst h3;simpa using pr2
    ·have h4:0<L2.length:=List.length_pos_iff.2 h3;have:R2=[]:=List.eq_nil_of_length_eq_zero (by omega);subst this;simpa using pl2
  refine⟨Z1++Z2,by rw[hw1];simp,?_,?_⟩
  ·refine(hz2.append hw2).trans ?_;simp only[List.append_assoc];refine List.Perm.append_left L1 ?_;rw[←List.append_assoc,←List.append_assoc];exact List.Perm.append_right R2 List.perm_append_comm
  ·refine List.pairwise_append.2 ⟨hz3,hw3,fun u hu v hv=>?_⟩;rcases List.mem_append.1 (hz2.mem_iff.1 hu) with hu|hu<;>rcases List.mem_append.1 (hw2.mem_iff.1 hv) with hv|hv
   ·exact pl3 u hu v hv
   ·exact hA u hu v hv
   ·exact hB u hu v hv
   ·exact pr3 u hu v hv
theorem aDH:∀{A B:List Int},A.Perm B→A.Pairwise r→B.Pairwise r→A=B
 | [],B,h,_,_=>(List.Perm.nil_eq h).symm ▸ rfl
 |x::A,[],h,_,_=>by have _:=htr;have:=h.length_eq;simp at this
 | x::A,y::B,h,ha,hb=>by
  obtain⟨a1,a2⟩:=List.pairwise_cons.1 ha;obtain⟨b1,b2⟩:=List.pairwise_cons.1 hb;by_cases hxy:x=y
  ·subst hxy;rw[aDH ((List.perm_cons x).1 h) a2 b2]
  ·exfalso
   have h1:x∈B:=by
    have:=h.mem_iff.1 (List.mem_cons_self (a:=x) (l:=A));rcases List.mem_cons.1 this with h|h
    ·exact absurd h hxy
    ·exact h
   have h2:y∈A:=by
    have:=h.mem_iff.2 (List.mem_cons_self (a:=y) (l:=B));rcases List.mem_cons.1 this with h|h
    ·exact absurd h.symm hxy
    ·exact h
   exact has _ _ (a1 y h2) (b1 x h1)
end
def stb (lt:Int→Int→Bool) (l:List Int):List Int:=
 if l.length<20 then pV lt 0 l.length l else
  let l1:=pV lt 20 l.length (pV lt 0 20 l)
  if 20<l.length then smg lt 40 0 20 l.length l1 else l1
theorem aFw (lt:Int→Int→Bool) (l:List Int):(stb lt l).length=l.length:=by
 unfold stb;split
 ·rw[gZ]
 ·dsimp only;split
  ·rw[nL,gZ,gZ]
  ·rw[gZ,gZ]
theorem aJ9 {lt:Int→Int→Bool}{r:Int→Int→Prop} (htr:∀x y z,r x y→r y z→r x z) (has:∀x y,r x y→¬r y x) {l:List Int} (hl:l.length≤40) (hp:l.Pairwise (aCU lt r)) :
  (stb lt l).Perm l∧(stb lt l).Pairwise r:=by
 unfold stb;split
 ·obtain⟨Z,h1,h2,h3⟩:=aCg htr [] l [] hp;simp only[List.length_nil,Nat.zero_add,List.append_nil,List.nil_append] at h1;rw[h1];exact⟨h2,h3⟩
 ·rename_i h20;dsimp only;obtain⟨A,B,rfl,hA⟩:∃A B,l=A++B∧A.length=20:=⟨l.take 20,l.drop 20,by simp,by simp;omega⟩;obtain⟨p1,p2,p3⟩:=List.pairwise_append.1 hp;obtain⟨Z1,h1,h2,h3⟩:=aCg htr [] A B p1;simp only[List.length_nil,Nat.zero_add,List.nil_append,hA] at h1;rw[h1];have hz:Z1.length=20:=by rw[h2.length_eq,hA]
  obtain⟨Z2,g1,g2,g3⟩:=aCg htr Z1 B [] p2;simp only[List.append_nil,hz] at g1;rw[show(A++B).length=20+B.length by simp[hA],g1];split
  ·have h4:=aDJ htr has 40 [] Z1 Z2 [] (by have:=g2.length_eq;simp[hA] at hl;omega) (by rintro rfl;simp at hz) (by rintro rfl;have:=g2.length_eq;simp at this;omega) h3 g3
    (fun x hx y hy=>p3 x (h2.mem_iff.1 hx) y (g2.mem_iff.1 hy))
   simp only[List.length_nil,Nat.zero_add,List.append_nil,List.nil_append,hz,g2.length_eq] at h4;obtain⟨Z,k1,k2,k3⟩:=h4;rw[k1];exact⟨k2.trans (h2.append g2),k3⟩
  ·have:B=[]:=List.eq_nil_of_length_eq_zero (by omega);subst this;have:Z2=[]:=List.Perm.eq_nil g2;subst this;simpa using⟨by simpa using h2,h3⟩
end
end Go.Proofs.YthbnjmgjhonfbaaGreat
