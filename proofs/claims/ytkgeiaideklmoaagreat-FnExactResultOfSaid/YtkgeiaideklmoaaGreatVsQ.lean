/- From the statement's arguments to closed values, and from a contract to the statement's answer. -/
import Derived.Test.YtkgeiaideklmoaaGreatVsX
import GoSem.ClaimJoined
import Derived.ProofKit
import Derived.JoinedOf
set_option linter.all false
set_option maxHeartbeats 8000000
namespace Go.Proofs.YtkgeiaideklmoaaGreat
section
def swp (l:List Int) (i j:Nat):List Int:=(l.set i (l.getD j 0)).set j (l.getD i 0)
theorem dN (l:List Int) (i j:Nat):(swp l i j).length=l.length:=by simp[swp]
theorem aBh (P M Q:List Int) (x y:Int):swp (P++x::(M++y::Q)) P.length (P.length+(M.length+1))=P++y::(M++x::Q):=by
 have F:(P++x::(M++y::Q)).getD P.length 0=x:=by simp[List.getD]
 have h2:(P++x::(M++y::Q)).getD (P.length+(M.length+1)) 0=y:=by
  simp[List.getD,List.getElem?_append_right]
 rw[swp,F,h2,List.set_append_right _ _ (Nat.le_refl _),Nat.sub_self,List.set_cons_zero,List.set_append_right _ _ (by omega)];rw[show P.length+(M.length+1)-P.length=M.length+1 by omega,List.set_cons_succ,List.set_append_right _ _ (Nat.le_refl _),Nat.sub_self,List.set_cons_zero]
theorem aD8 (l:List Int) {i j:Nat} (h:i≠j):swp l i j=swp l j i:=by rw[swp,swp,List.set_comm _ _ h]
/-! ## insertion -/
def vN (lt:Int→Int→Bool) (a:Nat):Nat→List Int→List Int
 |0,l=>l
 |j+1,l=>if a<j+1∧lt (l.getD (j+1) 0) (l.getD j 0)=true then vN lt a j (swp l (j+1) j) else l
theorem wJ (lt:Int→Int→Bool) (a:Nat):∀(j:Nat) (l:List Int),(vN lt a j l).length=l.length
 |0,l=>rfl
 | j+1,l=>by
  rw[vN];split
  ·rw[wJ lt a j,dN]
  ·rfl
theorem aCT (lt:Int→Int→Bool) (a:Nat) (l:List Int):vN lt a a l=l:=by
 cases a with
 |zero=>rfl
 |succ a=>rw[vN,if_neg (by omega)]
def uZ (lt:Int→Int→Bool) (a:Nat):Nat→Nat→List Int→List Int
 |0,_,l=>l
 |n+1,i,l=>uZ lt a n (i+1) (vN lt a i l)
theorem aA2 (lt:Int→Int→Bool) (a:Nat):∀(n i:Nat) (l:List Int),(uZ lt a n i l).length=l.length
 |0,_,l=>rfl
 |n+1,i,l=>by rw[uZ,aA2 lt a n,wJ]
def pG (lt:Int→Int→Bool) (a b:Nat) (l:List Int):List Int:=uZ lt a (b-(a+1)) (a+1) l
theorem gM (lt:Int→Int→Bool) (a b:Nat) (l:List Int):(pG lt a b l).length=l.length:=aA2 ..
theorem aGP (lt:Int→Int→Bool) (P:List Int):∀(n:Nat) (S:List Int) (x:Int) (Q:List Int),S.length=n→
  ∃F G,S=F++G∧vN lt P.length (P.length+n) (P++(S++x::Q))=P++(F++x::(G++Q))∧(∀e,e∈G→lt x e=true)∧∀e,F.getLast? = some e→lt x e=false
 | 0,S,x,Q,h=>by
  obtain rfl:=List.eq_nil_of_length_eq_zero h;exact⟨[],[],rfl,by rw[Nat.add_zero,aCT];rfl,by simp,by simp⟩
 | n+1,S,x,Q,h=>by
  rcases List.eq_nil_or_concat S with rfl|⟨S',e,rfl⟩
  ·simp at h
  ·simp only[List.concat_eq_append] at h⊢;have I:S'.length=n:=by simpa using h
   have O:(P++((S'++[e])++x::Q)).getD (P.length+n+1) 0=x:=by
    rw[←I];simp[List.getD,List.getElem?_append_right,Nat.add_assoc]
   have J:(P++((S'++[e])++x::Q)).getD (P.length+n) 0=e:=by
    rw[←I];simp[List.getD,List.getElem?_append_right]
   rw[←Nat.add_assoc,vN,O,J];cases hlt:lt x e
   ·rw[if_neg (by simp)]
    exact ⟨S'++[e],[],by simp,by simp,by simp,fun e' M=>by
      rw[List.getLast?_concat] at M;obtain rfl:=Option.some.inj M;exact hlt⟩
   ·rw[if_pos ⟨by omega,rfl⟩]
    have L:swp (P++((S'++[e])++x::Q)) (P.length+n+1) (P.length+n)=P++(S'++x::(e::Q)):=by
     rw[aD8 _ (by omega)];have:=aBh (P++S') [] Q e x;simp only[List.length_append,I,List.length_nil,Nat.zero_add,List.nil_append,←Nat.add_assoc] at this;simpa using this
    rw[L];obtain⟨F,G,U,h2,Y,h4⟩:=aGP lt P n S' x (e::Q) I;refine⟨F,G++[e],by rw[U];simp,by rw[h2];simp,fun z H=>?_,h4⟩;rcases List.mem_append.1 H with H|H
    ·exact Y z H
    ·obtain rfl:=List.mem_singleton.1 H;exact hlt
def aCz (lt:Int→Int→Bool) (r:Int→Int→Prop) (e x:Int):Prop:=(lt x e=true↔r x e)∧(r e x∨r x e)
section
variable {lt:Int→Int→Bool}{r:Int→Int→Prop} (htr:∀x y z,r x y→r y z→r x z)
include htr
theorem aI8 (P:List Int) {S:List Int}{x:Int} (Q:List Int) (hs:S.Pairwise r) (ha:∀e,e∈S→aCz lt r e x) :
  ∃Z,vN lt P.length (P.length+S.length) (P++(S++x::Q))=P++(Z++Q)∧Z.Perm (S++[x])∧Z.Pairwise r:=by
 obtain⟨G,H,rfl,h2,h3,h4⟩:=aGP lt P _ S x Q rfl;refine⟨G++x::H,by rw[h2];simp,?_,?_⟩
 ·have:(G++x::H).Perm (G++(H++[x])):=List.Perm.append_left G (List.perm_append_singleton x H).symm;simpa using this
 ·obtain⟨p1,p2,p3⟩:=List.pairwise_append.1 hs;have U:∀e,e∈H→r x e:=fun e F=>(ha e (by simp[F])).1.1 (h3 e F)
  have O:∀e,e∈G→r e x:=by
   intro e F
   obtain ⟨l,L⟩:∃l,G.getLast? = some l:=by
    cases h:G.getLast? with
    |none=>rw[List.getLast?_eq_none_iff] at h;rw[h] at F;cases F
    |some l=>exact⟨l,rfl⟩
   have M:l∈G:=List.mem_of_getLast? L;have I:=ha l (by simp[M])
   have J:r l x:=by
    rcases I.2 with h|h
    ·exact h
    ·have:=I.1.2 h;rw[h4 l L] at this;cases this
   obtain⟨S0,rfl⟩:=List.getLast?_eq_some_iff.1 L;rcases List.mem_append.1 F with F|F
   ·exact htr _ _ _ ((List.pairwise_append.1 p1).2.2 e F l (by simp)) J
   ·obtain rfl:=List.mem_singleton.1 F;exact J
  refine List.pairwise_append.2 ⟨p1,List.pairwise_cons.2 ⟨U,p2⟩,fun e F z Y=>?_⟩;rcases List.mem_cons.1 Y with rfl|Y
  ·exact O e F
  ·exact p3 e F z Y
theorem aET (P:List Int):∀(X S Q:List Int),S.Pairwise r→(∀e,e∈S→∀x,x∈X→aCz lt r e x)→X.Pairwise (aCz lt r)→
  ∃Z,uZ lt P.length X.length (P.length+S.length) (P++(S++(X++Q)))=P++(Z++Q)∧Z.Perm (S++X)∧Z.Pairwise r
 | [],S,Q,hs,_,_=>⟨S,by simp[uZ],by simp,hs⟩
 | x::X,S,Q,hs,ha,hp=>by
  obtain⟨J,M,h2,O⟩:=aI8 htr P (X++Q) hs (fun e G=>ha e G x (by simp));have F:J.length=S.length+1:=by simpa using h2.length_eq
  obtain⟨H,I⟩:=List.pairwise_cons.1 hp
  obtain ⟨Z,U,Y,h6⟩:=aET P X J Q O (fun e G y L=>by
    rcases List.mem_append.1 (h2.mem_iff.1 G) with h|h
    · exact ha e h y (by simp[L])
    · obtain rfl:=List.mem_singleton.1 h;exact H y L) I
  refine⟨Z,?_,?_,h6⟩
  ·simp only[List.length_cons,uZ,List.cons_append];rw[M,←U,F,Nat.add_assoc]
  ·refine Y.trans ((List.Perm.append_right X h2).trans ?_);simp
theorem aB2 (P X Q:List Int) (L:X.Pairwise (aCz lt r)):∃Z,pG lt P.length (P.length+X.length) (P++(X++Q))=P++(Z++Q)∧Z.Perm X∧Z.Pairwise r:=by
 cases X with
 |nil=>exact⟨[],by simp[pG,show P.length-(P.length+1)=0 by omega,uZ],by simp,by simp⟩
 | cons x X =>
  obtain⟨F,G⟩:=List.pairwise_cons.1 L;obtain⟨Z,H,h2,I⟩:=aET htr P X [x] Q (by simp) (fun e J y M=>by obtain rfl:=List.mem_singleton.1 J;exact F y M) G;refine⟨Z,?_,by simpa using h2,I⟩;rw[pG,show P.length+(x::X).length-(P.length+1)=X.length by simp;omega];simpa using H
end
/-! ## searching -/
def bs (p:Nat→Bool) (i j:Nat):Nat:=if h:i<j then(if p ((i+j)/2)=true then bs p ((i+j)/2+1) j else bs p i ((i+j)/2)) else i
termination_by j-i
theorem sD (p:Nat→Bool) {i j:Nat} (h:¬i<j):bs p i j=i:=by rw[bs,dif_neg h]
theorem aAS (p:Nat→Bool) {i j:Nat} (h:i<j) (F:p ((i+j)/2)=true):bs p i j=bs p ((i+j)/2+1) j:=by rw[bs,dif_pos h,if_pos F]
theorem aC9 (p:Nat→Bool) {i j:Nat} (h:i<j) (F:p ((i+j)/2)=false):bs p i j=bs p i ((i+j)/2):=by rw[bs,dif_pos h,if_neg (by simp[F])]
theorem aE9 (p:Nat→Bool):∀(n i j:Nat),j-i≤n→i≤j→(∀c d,i≤c→c≤d→d<j→p d=true→p c=true)→
  (i≤bs p i j∧bs p i j≤j)∧(∀c,i≤c→c<bs p i j→p c=true)∧∀c,bs p i j≤c→c<j→p c=false
 | 0,i,j,h,hij,hm=>by
  rw[sD p (by omega)];exact⟨by omega,fun c I h2=>by omega,fun c I h2=>by omega⟩
 | n+1,i,j,h,hij,hm=>by
  by_cases H:i<j
  ·cases hp:p ((i+j)/2)
   ·rw[aC9 p H hp];obtain⟨I,h2,J⟩:=aE9 p n i ((i+j)/2) (by omega) (by omega) fun c d a b e=>hm c d a b (by omega);refine⟨by omega,h2,fun c L G=>?_⟩;by_cases F:c<(i+j)/2
    ·exact J c L F
    ·cases hpc:p c with
     |false=>rfl
     |true=>rw[hm ((i+j)/2) c (by omega) (by omega) G hpc] at hp;cases hp
   ·rw[aAS p H hp];obtain⟨I,h2,J⟩:=aE9 p n ((i+j)/2+1) j (by omega) (by omega) fun c d a b e=>hm c d (by omega) b e;refine⟨by omega,fun c L G=>?_,J⟩;by_cases F:c≤(i+j)/2
    ·exact hm c _ L F (by omega) hp
    ·exact h2 c (by omega) G
  ·rw[sD p H];exact⟨by omega,fun c I h2=>by omega,fun c I h2=>by omega⟩
/-! ## moving -/
def mvU:Nat→Nat→List Int→List Int
 |0,_,l=>l
 |n+1,k,l=>mvU n (k+1) (swp l k (k+1))
def mvD:Nat→Nat→List Int→List Int
 |0,_,l=>l
 |n+1,k,l=>mvD n (k-1) (swp l k (k-1))
def swR:Nat→Nat→Nat→List Int→List Int
 |0,_,_,l=>l
 |n+1,a,b,l=>swR n (a+1) (b+1) (swp l a b)
def rot (m:Nat):Nat→Nat→Nat→List Int→List Int
 |0,_,_,l=>l
 |f+1,i,j,l=>if i=j then swR i (m-i) m l else if j<i then rot m f (i-j) j (swR j (m-i) m l) else rot m f i (j-i) (swR i (m-i) (m+j-i) l)
theorem aBS:∀(n k:Nat) (l:List Int),(mvU n k l).length=l.length
 |0,_,_=>rfl
 |n+1,k,l=>by rw[mvU,aBS n,dN]
theorem aBT:∀(n k:Nat) (l:List Int),(mvD n k l).length=l.length
 |0,_,_=>rfl
 |n+1,k,l=>by rw[mvD,aBT n,dN]
theorem jU:∀(n a b:Nat) (l:List Int),(swR n a b l).length=l.length
 |0,_,_,_=>rfl
 |n+1,a,b,l=>by rw[swR,jU n,dN]
theorem nL (m:Nat):∀(f i j:Nat) (l:List Int),(rot m f i j l).length=l.length
 |0,_,_,_=>rfl
 | f+1,i,j,l=>by
  rw[rot];split
  ·rw[jU]
  ·split
   ·rw[nL m f,jU]
   ·rw[nL m f,jU]
theorem aIR:∀(R P Q:List Int) (x:Int),mvU R.length P.length (P++x::(R++Q))=P++(R++x::Q)
 | [],P,Q,x=>rfl
 | y::R,P,Q,x=>by
  have:=aBh P [] (R++Q) x y;simp only[List.length_nil,List.nil_append,Nat.zero_add] at this;simp only[List.length_cons,mvU,List.cons_append];rw[this];have h2:=aIR R (P++[y]) Q x;simp only[List.length_append,List.length_cons,List.length_nil,Nat.zero_add,List.append_assoc,List.cons_append,List.nil_append] at h2;exact h2
theorem aIT (P:List Int):∀(n:Nat) (L Q:List Int) (y:Int),L.length=n→mvD n (P.length+n) (P++(L++y::Q))=P++(y::(L++Q))
 | 0,L,Q,y,h=>by
  obtain rfl:=List.eq_nil_of_length_eq_zero h;rfl
 | n+1,L,Q,y,h=>by
  rcases List.eq_nil_or_concat L with rfl|⟨L',e,rfl⟩
  ·simp at h
  ·simp only[List.concat_eq_append] at h⊢;have G:L'.length=n:=by simpa using h
   have F:swp (P++((L'++[e])++y::Q)) (P.length+(n+1)) (P.length+n)=P++(L'++y::(e::Q)):=by
    rw[aD8 _ (by omega)];have:=aBh (P++L') [] Q e y;simp only[List.length_append,G,List.length_nil,Nat.zero_add,List.nil_append] at this;simpa[Nat.add_assoc] using this
   rw[mvD,show P.length+(n+1)-1=P.length+n by omega,F,aIT P n L' (e::Q) y G];simp
theorem aDo:∀(X Y P M Q:List Int),X.length=Y.length→swR X.length P.length (P.length+X.length+M.length) (P++(X++(M++(Y++Q))))=P++(Y++(M++(X++Q)))
 | [],Y,P,M,Q,h=>by
  obtain rfl:=List.eq_nil_of_length_eq_zero h.symm;rfl
 |x::X,[],P,M,Q,h=>by simp at h
 | x::X,y::Y,P,M,Q,h=>by
  have G:X.length=Y.length:=by simpa using h
  have F:=aBh P (X++M) (Y++Q) x y;simp only[List.length_append,List.append_assoc] at F;simp only[List.length_cons,swR,List.cons_append];rw[show P.length+(X.length+1)+M.length=P.length+(X.length+M.length+1) by omega,F];have h2:=aDo X Y (P++[y]) (M++[x]) Q G;simp only[List.length_append,List.length_cons,List.length_nil,Nat.zero_add,List.append_assoc,List.cons_append,List.nil_append] at h2;rw[show P.length+(X.length+M.length+1)+1=P.length+1+X.length+(M.length+1) by omega,h2]
theorem aFv (m:Nat):∀(f:Nat) (X Y P Q:List Int),X.length+Y.length≤f→X≠[]→Y≠[]→m=P.length+X.length→
  rot m f X.length Y.length (P++(X++(Y++Q)))=P++(Y++(X++Q))
 | 0,X,Y,P,Q,hf,hx,_,_=>by
  exact absurd (List.eq_nil_of_length_eq_zero (by omega:X.length=0)) hx
 | f+1,X,Y,P,Q,hf,hx,hy,hm=>by
  have hb:0<X.length:=List.length_pos_iff.2 hx;have hc:0<Y.length:=List.length_pos_iff.2 hy;rw[rot];split
  ·rename_i he;have:=aDo X Y P [] Q he;simp only[List.length_nil,Nat.add_zero,List.nil_append] at this;rw[show m-X.length=P.length by omega,hm];exact this
  ·rename_i O;split
   ·rename_i M;obtain⟨F,G,rfl,J⟩:∃F G,X=F++G∧F.length=Y.length:=⟨X.take Y.length,X.drop Y.length,by simp,by simp;omega⟩;have h2:(F++G).length=F.length+G.length:=by simp
    have:=aDo F Y P G Q J;have U:G≠[]:=by rintro rfl;simp at M;omega
    rw[show m-(F++G).length=P.length by omega,←J,hm,h2,List.append_assoc F G,←Nat.add_assoc,this,show F.length+G.length-F.length=G.length by omega];have L:=aFv (P.length+F.length+G.length) f G F (P++Y) Q (by omega) U (by rintro rfl;simp at J;omega) (by simp;omega);simp only[List.append_assoc] at L;rw[L,List.append_assoc]
   ·obtain⟨H,I,rfl,J⟩:∃H I,Y=H++I∧I.length=X.length:=⟨Y.take (Y.length-X.length),Y.drop (Y.length-X.length),by simp,by simp;omega⟩;have h2:(H++I).length=H.length+I.length:=by simp
    have:=aDo X I P H Q J.symm;have ha:H≠[]:=by rintro rfl;simp at O;omega
    rw[h2,J,show m-X.length=P.length by omega,show m+(H.length+X.length)-X.length=P.length+X.length+H.length by omega,List.append_assoc H I,this,show H.length+X.length-X.length=H.length by omega];have L:=aFv m f I H P (X++Q) (by omega) (by rintro rfl;simp at J;omega) ha (by omega);rw[J] at L;rw[L]
    try simp
/-! ## merging -/
def smg (lt:Int→Int→Bool):Nat→Nat→Nat→Nat→List Int→List Int
 |0,_,_,_,l=>l
 | f+1,a,m,b,l =>
  if m-a=1 then mvU (bs (fun h=>lt (l.getD h 0) (l.getD a 0)) m b-1-a) a l
  else if b-m=1 then mvD (m-bs (fun h=>!lt (l.getD m 0) (l.getD h 0)) a m) m l
  else
   let mid:=(a+b)/2
   let s:=bs (fun c=>!lt (l.getD (mid+m-1-c) 0) (l.getD c 0)) (if mid<m then mid+m-b else a) (if mid<m then mid else m)
   let l1:=if s<m∧m<mid+m-s then rot m (mid+m-s-s) (m-s) (mid+m-s-m) l else l
   let l2:=if a<s∧s<mid then smg lt f a s mid l1 else l1
   if mid<mid+m-s∧mid+m-s<b then smg lt f mid (mid+m-s) b l2 else l2
theorem nD (lt:Int→Int→Bool):∀(f a m b:Nat) (l:List Int),(smg lt f a m b l).length=l.length
 |0,_,_,_,_=>rfl
 | f+1,a,m,b,l=>by
  rw[smg];split
  ·rw[aBS]
  ·split
   ·rw[aBT]
   ·dsimp only
    repeat' split
    all_goals simp only[nD lt f,nL]
theorem get_at {P L R:List Int}{i:Nat} (hi:i<L.length):(P++(L++R)).getD (P.length+i) 0=L.getD i 0:=by
 simp[List.getD,List.getElem?_append_right,List.getElem?_append_left hi]
theorem wC {r:Int→Int→Prop}{L:List Int} (h:L.Pairwise r) {i j:Nat} (F:i<j) (G:j<L.length):r (L.getD i 0) (L.getD j 0):=by
 have:=List.pairwise_iff_getElem.1 h i j (by omega) G F;simpa[List.getD,G,show i<L.length by omega] using this
theorem eQ {L:List Int}{i:Nat} (hi:i<L.length):L.getD i 0∈L:=by simp[List.getD,hi]
theorem kE {L:List Int}{x:Int} (h:x∈L):∃i,i<L.length∧L.getD i 0=x:=by
 obtain⟨i,hi,rfl⟩:=List.mem_iff_getElem.1 h;exact⟨i,hi,by simp[List.getD,hi]⟩
section
variable {lt:Int→Int→Bool}{r:Int→Int→Prop} (htr:∀x y z,r x y→r y z→r x z) (has:∀x y,r x y→¬r y x)
include has
theorem uK {e x:Int} (h:aCz lt r e x):lt x e=false↔r e x:=by
 constructor
 ·intro F;rcases h.2 with h2|h2
  ·exact h2
  ·rw[h.1.2 h2] at F;cases F
 ·intro G;cases hl:lt x e with
  |false=>rfl
  |true=>exact absurd (h.1.1 hl) (has _ _ G)
include htr
theorem aJX (P R Q:List Int) (x:Int) (hR:R.Pairwise r) (ha:∀y,y∈R→aCz lt r x y) :
  ∃Z,mvU (bs (fun h=>lt ((P++(x::(R++Q))).getD h 0) ((P++(x::(R++Q))).getD P.length 0)) (P.length+1) (P.length+1+R.length)-1-P.length) P.length (P++(x::(R++Q)))=P++(Z++Q)∧Z.Perm (x::R)∧Z.Pairwise r:=by
 have ex:(P++(x::(R++Q))).getD P.length 0=x:=by simp[List.getD]
 have L:∀i,i<R.length→(P++(x::(R++Q))).getD (P.length+1+i) 0=R.getD i 0:=by
  intro i hi;have:=get_at (P:=P++[x]) (R:=Q) hi;simpa using this
 rw[ex];have F:∀i,i<R.length→(lt (R.getD i 0) x=true↔r (R.getD i 0) x):=fun i hi=>(ha _ (eQ hi)).1
 obtain ⟨h1,h2,h3⟩:=aE9 (fun h=>lt ((P++(x::(R++Q))).getD h 0) x) _ (P.length+1) (P.length+1+R.length) (Nat.le_refl _) (by omega) (by
   intro c d hc hb hd I;obtain⟨i,rfl⟩:∃i,c=P.length+1+i:=⟨c-(P.length+1),by omega⟩;obtain⟨j,rfl⟩:∃j,d=P.length+1+j:=⟨d-(P.length+1),by omega⟩
   try simp only at I⊢
   rw[L j (by omega)] at I;rw[L i (by omega)];by_cases O:i=j
   · subst O;exact I
   · exact(F i (by omega)).2 (htr _ _ _ (wC hR (by omega) (by omega)) ((F j (by omega)).1 I)))
 generalize bs (fun h=>lt ((P++(x::(R++Q))).getD h 0) x) (P.length+1) (P.length+1+R.length)=s at *
 obtain⟨k,rfl⟩:∃k,s=P.length+1+k:=⟨s-(P.length+1),by omega⟩;have hk:k≤R.length:=by omega
 have M:R=R.take k++R.drop k:=(List.take_append_drop k R).symm;have G:(R.take k).length=k:=by simp;omega
 refine⟨R.take k++x::R.drop k,?_,?_,?_⟩
 ·have:=aIR (R.take k) P (R.drop k++Q) x;rw[G,←List.append_assoc,List.take_append_drop] at this;rw[show P.length+1+k-1-P.length=k by omega,this];simp
 ·have h4:(R.take k++x::R.drop k).Perm (x::(R.take k++R.drop k)):=List.perm_middle;rw[List.take_append_drop] at h4;exact h4
 ·have I:=hR;rw[M] at I;obtain⟨p1,p2,p3⟩:=List.pairwise_append.1 I
  have U:∀e,e∈R.take k→r e x:=by
   intro e J;obtain⟨i,hi,rfl⟩:=kE J;rw[G] at hi;have H:=h2 (P.length+1+i) (by omega) (by omega)
   try simp only at H
   rw[L i (by omega)] at H;have:(R.take k).getD i 0=R.getD i 0:=by simp[List.getD,List.getElem?_take,hi]
   rw[this];exact(F i (by omega)).1 H
  have Y:∀e,e∈R.drop k→r x e:=by
   intro e J;obtain⟨i,hi,rfl⟩:=kE J;simp only[List.length_drop] at hi;have H:=h3 (P.length+1+(k+i)) (by omega) (by omega)
   try simp only at H
   rw[L (k+i) (by omega)] at H;have:(R.drop k).getD i 0=R.getD (k+i) 0:=by simp[List.getD,List.getElem?_drop]
   rw[this];exact(uK has (ha _ (eQ (by omega)))).1 H
  refine List.pairwise_append.2 ⟨p1,List.pairwise_cons.2 ⟨Y,p2⟩,fun e J z hz=>?_⟩;rcases List.mem_cons.1 hz with rfl|hz
  ·exact U e J
  ·exact p3 e J z hz
theorem aIk (P L Q:List Int) (y:Int) (hL:L.Pairwise r) (ha:∀x,x∈L→aCz lt r x y) :
  ∃Z,mvD (P.length+L.length-bs (fun h=>!lt ((P++(L++(y::Q))).getD (P.length+L.length) 0) ((P++(L++(y::Q))).getD h 0)) P.length (P.length+L.length)) (P.length+L.length) (P++(L++(y::Q)))=P++(Z++Q)∧Z.Perm (L++[y])∧Z.Pairwise r:=by
 have ey:(P++(L++(y::Q))).getD (P.length+L.length) 0=y:=by
  simp[List.getD,List.getElem?_append_right]
 have O:∀i,i<L.length→(P++(L++(y::Q))).getD (P.length+i) 0=L.getD i 0:=fun i hi=>get_at hi;rw[ey];have F:∀i,i<L.length→(lt y (L.getD i 0)=false↔r (L.getD i 0) y):=fun i hi=>uK has (ha _ (eQ hi))
 obtain ⟨h1,h2,h3⟩:=aE9 (fun h=>!lt y ((P++(L++(y::Q))).getD h 0)) _ P.length (P.length+L.length) (Nat.le_refl _) (by omega) (by
   intro c d hc hg hd J;obtain⟨i,rfl⟩:∃i,c=P.length+i:=⟨c-P.length,by omega⟩;obtain⟨j,rfl⟩:∃j,d=P.length+j:=⟨d-P.length,by omega⟩;simp only[Bool.not_eq_true'] at J⊢;rw[O j (by omega)] at J;rw[O i (by omega)];by_cases Y:i=j
   · subst Y;exact J
   · exact(F i (by omega)).2 (htr _ _ _ (wC hL (by omega) (by omega)) ((F j (by omega)).1 J)))
 generalize bs (fun h=>!lt y ((P++(L++(y::Q))).getD h 0)) P.length (P.length+L.length)=s at *
 obtain⟨k,rfl⟩:∃k,s=P.length+k:=⟨s-P.length,by omega⟩;have hk:k≤L.length:=by omega
 have U:L=L.take k++L.drop k:=(List.take_append_drop k L).symm;have G:(L.take k).length=k:=by simp;omega
 have I:(L.drop k).length=L.length-k:=by simp
 refine⟨L.take k++y::L.drop k,?_,?_,?_⟩
 ·have:=aIT (P++L.take k) (L.length-k) (L.drop k) Q y I;simp only[List.length_append,G,List.append_assoc] at this;rw[←List.append_assoc (L.take k),List.take_append_drop,show P.length+k+(L.length-k)=P.length+L.length by omega] at this;rw[show P.length+L.length-(P.length+k)=L.length-k by omega,this];simp
 ·have h4:(L.take k++y::L.drop k).Perm (y::(L.take k++L.drop k)):=List.perm_middle;rw[List.take_append_drop] at h4;exact h4.trans (List.perm_append_singleton y L).symm
 ·have J:=hL;rw[U] at J;obtain⟨p1,p2,p3⟩:=List.pairwise_append.1 J
  have hb:∀e,e∈L.take k→r e y:=by
   intro e M;obtain⟨i,hi,rfl⟩:=kE M;rw[G] at hi;have H:=h2 (P.length+i) (by omega) (by omega);simp only[Bool.not_eq_true'] at H;rw[O i (by omega)] at H;have:(L.take k).getD i 0=L.getD i 0:=by simp[List.getD,List.getElem?_take,hi]
   rw[this];exact(F i (by omega)).1 H
  have hf:∀e,e∈L.drop k→r y e:=by
   intro e M;obtain⟨i,hi,rfl⟩:=kE M;simp only[List.length_drop] at hi;have H:=h3 (P.length+(k+i)) (by omega) (by omega);simp only[Bool.not_eq_false'] at H;rw[O (k+i) (by omega)] at H;have:(L.drop k).getD i 0=L.getD (k+i) 0:=by simp[List.getD,List.getElem?_drop]
   rw[this];exact(ha _ (eQ (by omega))).1.1 H
  refine List.pairwise_append.2 ⟨p1,List.pairwise_cons.2 ⟨hf,p2⟩,fun e M z hz=>?_⟩;rcases List.mem_cons.1 hz with rfl|hz
  ·exact hb e M
  ·exact p3 e M z hz
end
end
section
section
variable {lt:Int→Int→Bool}{r:Int→Int→Prop} (htr:∀x y z,r x y→r y z→r x z) (has:∀x y,r x y→¬r y x)
include htr has
theorem aDr:∀(f:Nat) (P L R Q:List Int),L.length+R.length≤f→L≠[]→R≠[]→L.Pairwise r→R.Pairwise r→(∀x,x∈L→∀y,y∈R→aCz lt r x y)→
  ∃Z,smg lt f P.length (P.length+L.length) (P.length+L.length+R.length) (P++(L++(R++Q)))=P++(Z++Q)∧Z.Perm (L++R)∧Z.Pairwise r
 |0,P,L,R,Q,hf,hl,_,_,_,_=>absurd (List.eq_nil_of_length_eq_zero (by omega:L.length=0)) hl
 | f+1,P,L,R,Q,hf,hl,hr,hL,hR,ha=>by
  have qr:0<L.length:=List.length_pos_iff.2 hl;have qt:0<R.length:=List.length_pos_iff.2 hr;rw[smg];by_cases h1:L.length=1
  ·rw[if_pos (by omega)];obtain⟨x,rfl⟩:=List.length_eq_one_iff.1 h1;have:=aJX htr has P R Q x hR (fun y hy=>ha x (by simp) y hy);simpa using this
  rw[if_neg (by omega)];by_cases h2:R.length=1
  ·rw[if_pos (by omega)];obtain⟨y,rfl⟩:=List.length_eq_one_iff.1 h2;have:=aIk htr has P L Q y hL (fun x Y=>ha x Y y (by simp));simpa using this
  rw[if_neg (by omega)];dsimp only;have eL:∀i,i<L.length→(P++(L++(R++Q))).getD (P.length+i) 0=L.getD i 0:=fun i hi=>get_at hi
  have eR:∀j,j<R.length→(P++(L++(R++Q))).getD (P.length+L.length+j) 0=R.getD j 0:=by
   intro j hj;have:=get_at (P:=P++L) (R:=Q) hj;simpa using this
  generalize ql:(P.length+(P.length+L.length+R.length))/2=mid;have qs:2*mid≤P.length+(P.length+L.length+R.length)∧P.length+(P.length+L.length+R.length)≤2*mid+1:=by omega
  generalize hm:P.length+L.length=m at *
  generalize hw:(if mid<m then mid+m-(m+R.length) else P.length)=lo;generalize ht:(if mid<m then mid else m)=hi
  have qd:P.length≤lo∧lo≤hi∧hi≤m∧hi≤mid∧mid+m-lo≤m+R.length∧(mid<m→lo=mid-R.length∧hi=mid)∧(¬mid<m→lo=P.length∧hi=m):=by
   by_cases h:mid<m
   ·rw[if_pos h] at hw ht;omega
   ·rw[if_neg h] at hw ht;omega
  obtain⟨b1,b2,b3,b4,b5,b6,b7⟩:=qd
  have hb:∀c,lo≤c→c<hi→∃i j,c=P.length+i∧mid+m-1-c=m+j∧i<L.length∧j<R.length∧(P++(L++(R++Q))).getD c 0=L.getD i 0∧(P++(L++(R++Q))).getD (mid+m-1-c) 0=R.getD j 0:=by
   intro c J h4;refine⟨c-P.length,mid+m-1-c-m,by omega,by omega,by omega,by omega,?_,?_⟩
   ·rw[←eL _ (by omega)];congr 1;omega
   ·rw[←eR _ (by omega)];congr 1;omega
  have he:∀c d,lo≤c→c≤d→d<hi→(fun c=>!lt ((P++(L++(R++Q))).getD (mid+m-1-c) 0) ((P++(L++(R++Q))).getD c 0)) d=true→(fun c=>!lt ((P++(L++(R++Q))).getD (mid+m-1-c) 0) ((P++(L++(R++Q))).getD c 0)) c=true:=by
   intro c d J h4 M hp;obtain⟨i,j,e1,e2,e3,e4,e5,e6⟩:=hb c J (by omega);obtain⟨i',j',qm,qn,hs,h8,h9,qa⟩:=hb d (by omega) M;simp only[Bool.not_eq_true'] at hp⊢;rw[h9,qa,uK has (ha _ (eQ hs) _ (eQ h8))] at hp;rw[e5,e6,uK has (ha _ (eQ e3) _ (eQ e4))];by_cases qq:c=d
   ·have:i=i':=by omega
    have:j=j':=by omega
    subst_vars;assumption
   ·exact htr _ _ _ (htr _ _ _ (wC hL (by omega:i<i') hs) hp) (wC hR (by omega:j'<j) e4)
  obtain⟨s1,s2,s3⟩:=aE9 (fun c=>!lt ((P++(L++(R++Q))).getD (mid+m-1-c) 0) ((P++(L++(R++Q))).getD c 0)) _ lo hi (Nat.le_refl _) b2 he;generalize bs (fun c=>!lt ((P++(L++(R++Q))).getD (mid+m-1-c) 0) ((P++(L++(R++Q))).getD c 0)) lo hi=s at *
  obtain⟨G,H,rfl,qo⟩:∃G H,L=G++H∧G.length=s-P.length:=⟨L.take (s-P.length),L.drop (s-P.length),by simp,by simp;omega⟩;obtain⟨F,I,rfl,qp⟩:∃F I,R=F++I∧F.length=mid-s:=⟨R.take (mid-s),R.drop (mid-s),by simp,by simp;omega⟩;simp only[List.length_append] at *
  obtain⟨hk,hn,qj⟩:=List.pairwise_append.1 hL;obtain⟨ho,hq,qk⟩:=List.pairwise_append.1 hR
  have hA:∀x,x∈G→∀y,y∈I→r x y:=by
   intro x Y y hy;have J:0<G.length:=List.length_pos_of_mem Y;have h4:0<I.length:=List.length_pos_of_mem hy
   have hd:lo≤s-1:=by
    by_cases h:mid<m
    ·have:=(b6 h).1;omega
    ·have:=(b7 h).1;omega
   obtain⟨i,j,e1,e2,e3,e4,e5,e6⟩:=hb (s-1) hd (by omega);have M:=s2 (s-1) hd (by omega);simp only[Bool.not_eq_true'] at M;rw[e5,e6,uK has (ha _ (eQ (by simpa using e3)) _ (eQ (by simpa using e4)))] at M
   have g1:(G++H).getD i 0=G.getD (G.length-1) 0:=by
    rw[show i=G.length-1 by omega];simp[List.getD,List.getElem?_append_left (show G.length-1<G.length by omega)]
   have g2:(F++I).getD j 0=I.getD 0 0:=by
    rw[show j=F.length by omega];simp[List.getD,List.getElem?_append_right]
   rw[g1,g2] at M;obtain⟨i',qb,rfl⟩:=kE Y;obtain⟨j',qc,rfl⟩:=kE hy
   have O:i'=G.length-1∨r (G.getD i' 0) (G.getD (G.length-1) 0):=by
    by_cases h:i'=G.length-1
    ·exact .inl h
    ·exact .inr (wC hk (by omega) (by omega))
   have U:j'=0∨r (I.getD 0 0) (I.getD j' 0):=by
    by_cases h:j'=0
    ·exact .inl h
    ·exact .inr (wC hq (by omega) (by omega))
   rcases O with O|O<;>rcases U with U|U
   ·rw[O,U];exact M
   ·rw[O];exact htr _ _ _ M U
   ·rw[U];exact htr _ _ _ O M
   ·exact htr _ _ _ O (htr _ _ _ M U)
  have hB:∀y,y∈F→∀x,x∈H→r y x:=by
   intro y hy x Y;have J:0<H.length:=List.length_pos_of_mem Y;have h4:0<F.length:=List.length_pos_of_mem hy
   have hc:s<hi:=by
    by_cases h:mid<m
    ·have:=(b6 h).2;omega
    ·have:=(b7 h).2;omega
   obtain⟨i,j,e1,e2,e3,e4,e5,e6⟩:=hb s (by omega) hc;have M:=s3 s (by omega) hc;simp only[Bool.not_eq_false'] at M;rw[e5,e6,(ha _ (eQ (by simpa using e3)) _ (eQ (by simpa using e4))).1] at M
   have g1:(G++H).getD i 0=H.getD 0 0:=by
    rw[show i=G.length by omega];simp[List.getD,List.getElem?_append_right]
   have g2:(F++I).getD j 0=F.getD (F.length-1) 0:=by
    rw[show j=F.length-1 by omega];simp[List.getD,List.getElem?_append_left (show F.length-1<F.length by omega)]
   rw[g1,g2] at M;obtain⟨i',qb,rfl⟩:=kE Y;obtain⟨j',qc,rfl⟩:=kE hy
   have O:j'=F.length-1∨r (F.getD j' 0) (F.getD (F.length-1) 0):=by
    by_cases h:j'=F.length-1
    ·exact .inl h
    ·exact .inr (wC ho (by omega) (by omega))
   have U:i'=0∨r (H.getD 0 0) (H.getD i' 0):=by
    by_cases h:i'=0
    ·exact .inl h
    ·exact .inr (wC hn (by omega) (by omega))
   rcases O with O|O<;>rcases U with U|U
   ·rw[O,U];exact M
   ·rw[O];exact htr _ _ _ M U
   ·rw[U];exact htr _ _ _ O M
   ·exact htr _ _ _ O (htr _ _ _ M U)
  have hz:(if s<m∧m<mid+m-s then rot m (mid+m-s-s) (m-s) (mid+m-s-m) (P++(G++H++(F++I++Q))) else P++(G++H++(F++I++Q)))=P++(G++(F++(H++(I++Q)))):=by
   split
   ·have J:=aFv m (mid+m-s-s) H F (P++G) (I++Q) (by omega) (by rintro rfl;simp at *;omega) (by rintro rfl;simp at *;omega) (by simp;omega);rw[show m-s=H.length by omega,show mid+m-s-m=F.length by omega];simpa using J
   ·by_cases J:H=[]
    ·subst J;simp
    ·have h4:0<H.length:=List.length_pos_iff.2 J;have:F=[]:=List.eq_nil_of_length_eq_zero (by omega);subst this;simp
  rw[hz]
  obtain ⟨Z1,qg,hg,qh⟩:∃Z1,(if P.length<s∧s<mid then smg lt f P.length s mid (P++(G++(F++(H++(I++Q))))) else P++(G++(F++(H++(I++Q)))))=P++(Z1++(H++(I++Q)))∧Z1.Perm (G++F)∧Z1.Pairwise r:=by
   split
   ·have J:=aDr f P G F (H++(I++Q)) (by omega) (by rintro rfl;simp at *;omega) (by rintro rfl;simp at *;omega) hk ho (fun x Y y hy=>ha x (by simp[Y]) y (by simp[hy]));rw[show P.length+G.length=s by omega,show s+F.length=mid by omega] at J;exact J
   ·refine⟨G++F,by simp,List.Perm.refl _,?_⟩;by_cases J:G=[]
    ·subst J;simpa using ho
    ·have h4:0<G.length:=List.length_pos_iff.2 J;have:F=[]:=List.eq_nil_of_length_eq_zero (by omega);subst this;simpa using hk
  rw[qg];have qi:(P++Z1).length=mid:=by have:=hg.length_eq;simp at this⊢;omega
  obtain ⟨Z2,qe,h0,qf⟩:∃Z2,(if mid<mid+m-s∧mid+m-s<m+(F.length+I.length) then smg lt f mid (mid+m-s) (m+(F.length+I.length)) (P++(Z1++(H++(I++Q)))) else P++(Z1++(H++(I++Q))))=P++(Z1++(Z2++Q))∧Z2.Perm (H++I)∧Z2.Pairwise r:=by
   split
   ·have J:=aDr f (P++Z1) H I Q (by omega) (by rintro rfl;simp at *;omega) (by rintro rfl;simp at *;omega) hn hq (fun x Y y hy=>ha x (by simp[Y]) y (by simp[hy]));rw[qi,show mid+H.length=mid+m-s by omega,show mid+m-s+I.length=m+(F.length+I.length) by omega] at J;simpa using J
   ·refine⟨H++I,by simp,List.Perm.refl _,?_⟩;by_cases J:H=[]
    ·subst J;simpa using hq
    ·have h4:0<H.length:=List.length_pos_iff.2 J;have:I=[]:=List.eq_nil_of_length_eq_zero (by omega);subst this;simpa using hn
  refine⟨Z1++Z2,by rw[qe];simp,?_,?_⟩
  ·refine(hg.append h0).trans ?_;simp only[List.append_assoc];refine List.Perm.append_left G ?_;rw[←List.append_assoc,←List.append_assoc];exact List.Perm.append_right I List.perm_append_comm
  ·refine List.pairwise_append.2 ⟨qh,qf,fun u hu v hv=>?_⟩;rcases List.mem_append.1 (hg.mem_iff.1 hu) with hu|hu<;>rcases List.mem_append.1 (h0.mem_iff.1 hv) with hv|hv
   ·exact qj u hu v hv
   ·exact hA u hu v hv
   ·exact hB u hu v hv
   ·exact qk u hu v hv
theorem aDq:∀{A B:List Int},A.Perm B→A.Pairwise r→B.Pairwise r→A=B
 | [],B,h,_,_=>(List.Perm.nil_eq h).symm ▸ rfl
 |x::A,[],h,_,_=>by have _:=htr;have:=h.length_eq;simp at this
 | x::A,y::B,h,ha,hb=>by
  obtain⟨G,H⟩:=List.pairwise_cons.1 ha;obtain⟨I,J⟩:=List.pairwise_cons.1 hb;by_cases F:x=y
  ·subst F;rw[aDq ((List.perm_cons x).1 h) H J]
  ·exfalso
   have L:x∈B:=by
    have:=h.mem_iff.1 (List.mem_cons_self (a:=x) (l:=A));rcases List.mem_cons.1 this with h|h
    ·exact absurd h F
    ·exact h
   have h2:y∈A:=by
    have:=h.mem_iff.2 (List.mem_cons_self (a:=y) (l:=B));rcases List.mem_cons.1 this with h|h
    ·exact absurd h.symm F
    ·exact h
   exact has _ _ (G y h2) (I x L)
end
def stb (lt:Int→Int→Bool) (l:List Int):List Int:=
 if l.length<20 then pG lt 0 l.length l else
  let l1:=pG lt 20 l.length (pG lt 0 20 l)
  if 20<l.length then smg lt 40 0 20 l.length l1 else l1
theorem aFo (lt:Int→Int→Bool) (l:List Int):(stb lt l).length=l.length:=by
 unfold stb;split
 ·rw[gM]
 ·dsimp only;split
  ·rw[nD,gM,gM]
  ·rw[gM,gM]
theorem aJW {lt:Int→Int→Bool}{r:Int→Int→Prop} (htr:∀x y z,r x y→r y z→r x z) (has:∀x y,r x y→¬r y x) {l:List Int} (hl:l.length≤40) (Y:l.Pairwise (aCz lt r)) :
  (stb lt l).Perm l∧(stb lt l).Pairwise r:=by
 unfold stb;split
 ·obtain⟨Z,G,h2,H⟩:=aB2 htr [] l [] Y;simp only[List.length_nil,Nat.zero_add,List.append_nil,List.nil_append] at G;rw[G];exact⟨h2,H⟩
 ·rename_i ha;dsimp only;obtain⟨A,B,rfl,I⟩:∃A B,l=A++B∧A.length=20:=⟨l.take 20,l.drop 20,by simp,by simp;omega⟩;obtain⟨p1,p2,p3⟩:=List.pairwise_append.1 Y;obtain⟨J,G,h2,H⟩:=aB2 htr [] A B p1;simp only[List.length_nil,Nat.zero_add,List.nil_append,I] at G;rw[G];have L:J.length=20:=by rw[h2.length_eq,I]
  obtain⟨M,O,F,g3⟩:=aB2 htr J B [] p2;simp only[List.append_nil,L] at O;rw[show(A++B).length=20+B.length by simp[I],O];split
  ·have U:=aDr htr has 40 [] J M [] (by have:=F.length_eq;simp[I] at hl;omega) (by rintro rfl;simp at L) (by rintro rfl;have:=F.length_eq;simp at this;omega) H g3
    (fun x hx y hy=>p3 x (h2.mem_iff.1 hx) y (F.mem_iff.1 hy))
   simp only[List.length_nil,Nat.zero_add,List.append_nil,List.nil_append,L,F.length_eq] at U;obtain⟨Z,k1,k2,k3⟩:=U;rw[k1];exact⟨k2.trans (h2.append F),k3⟩
  ·have:B=[]:=List.eq_nil_of_length_eq_zero (by omega);subst this;have:M=[]:=List.Perm.eq_nil F;subst this;simpa using⟨by simpa using h2,H⟩
end
end Go.Proofs.YtkgeiaideklmoaaGreat
namespace Go.Vs
variable [Envs]
open Go.ChangeShapes Go.RowKit
variable {P:Program}
def dE (P:Program) (t:TypeId) {α:Type} (k:Nat) (e:α→List AV):Prop:=
 P.cellsOf t=k∧(∀a,(e a).length=k)∧∀(H:Type) (enc:TypeId×Value→H) (w:World) (sp:Nat→Bool) (fuel:Nat) (cs:List Value) (x:DataW H×List MemPlace),
  DataW.trod enc P w 0 sp true fuel t cs=some x→∃a,cs.length=k∧∀j,j<k→(cs.getD j undef).oneCell'=true∧RC (fun b=>b<w.heap.size) w ((e a).getD j .junk) (cs.getD j undef)
theorem dE.int {t:TypeId}{F:IntKind} (h:P.underlying t=some (.int F)) (G:P.cellsOf t=1) :
  dE P t 1 (fun n:{n:Int // (Lit.int F n).wf=true}=>[.v (.int F n.1)]):=by
 refine⟨G,fun _=>rfl,fun H enc w M fuel cs x J=>?_⟩;obtain⟨n,rfl,_,I⟩:=DataW.trod_int h J;refine⟨⟨n,I⟩,rfl,fun j L=>?_⟩;obtain rfl:j=0:=by omega
 exact⟨rfl,.v _⟩
theorem dE.bool {t:TypeId} (h:P.underlying t=some .bool) (F:P.cellsOf t=1):dE P t 1 (fun b:Bool=>[.v (.bool b)]):=by
 refine⟨F,fun _=>rfl,fun H enc w J fuel cs x G=>?_⟩;obtain⟨b,rfl,_⟩:=DataW.trod_bool h G;refine⟨b,rfl,fun j I=>?_⟩;obtain rfl:j=0:=by omega
 exact⟨rfl,.v _⟩
theorem dE.string {t:TypeId} (h:P.underlying t=some .string) (F:P.cellsOf t=1):dE P t 1 (fun s:{s:ByteArray // s.size<2 ^ 63}=>[.v (.string s.1)]):=by
 refine⟨F,fun _=>rfl,fun H enc w L fuel cs x I=>?_⟩;obtain⟨s,rfl,_,G⟩:=DataW.trod_string h I;refine⟨⟨s,by simp only[maxLen] at G;omega⟩,rfl,fun j J=>?_⟩;obtain rfl:j=0:=by omega
 exact⟨rfl,.v _⟩
theorem aA8 {α:Type} (p:Nat→α→Prop):∀n,(∀i,i<n→∃a,p i a)→∃l:List α,l.length=n∧∀(i:Nat) (a:α),l[i]? = some a→p i a
 |0,_=>⟨[],rfl,by simp⟩
 | n+1,h=>by
  obtain⟨l,G,h2⟩:=aA8 p n fun i hi=>h i (by omega);obtain⟨a,H⟩:=h n (by omega);refine⟨l++[a],by simp[G],fun i b F=>?_⟩;rcases Nat.lt_or_ge i n with hi|hi
  ·rw[List.getElem?_append_left (by omega)] at F;exact h2 i b F
  ·have:i=n:=by
    have:=(List.getElem?_eq_some_iff.1 F).1;simp at this;omega
   subst this;rw[List.getElem?_append_right (by omega)] at F;simp[G] at F;subst F;exact H
theorem dE.slice {t u:TypeId}{α:Type}{k:Nat}{e:α→List AV} (h:P.underlying t=some (.slice u)) (hc:P.cellsOf t=1) (hk:0<k) (he:dE P u k e) :
  dE P t 1 (fun l:{l:List α // l.length<2 ^ 63}=>[.sl k (l.1.map e)]):=by
 obtain⟨g1,g2,g3⟩:=he;refine⟨hc,fun _=>rfl,fun H enc w sp fuel cs x hx=>?_⟩;rcases DataW.trod_slice h hx with⟨rfl,_⟩|⟨A,len,cap,L,hq,n,rfl,rfl,rfl,_,hv,Y,ht,hb,_⟩
 ·refine⟨⟨[],by simp⟩,rfl,fun j I=>?_⟩;obtain rfl:j=0:=by omega
  exact⟨rfl,.sl k [] none 0 0 0 (fun _=>undef) (by simp) (by simp) (by simp) (by simp) (by simp) ⟨by simp,by decide⟩⟩
 ·have hn:∀i,i<len→∃a,∃cs,w.cells? 0 (A.add (i*k)) k=some cs∧∀j,j<k→(cs.getD j undef).oneCell'=true∧RC (fun b=>b<w.heap.size) w ((e a).getD j .junk) (cs.getD j undef):=by
   intro i hi;have h1:=hb i hi;rw[g1] at h1;have:i<L.length:=by omega
   rw[List.getElem?_eq_getElem this] at h1;obtain⟨cs,h2,h3⟩:=Option.bind_eq_some_iff.1 h1;obtain⟨a,_,h4⟩:=g3 H enc w sp n cs _ h3;exact⟨a,cs,h2,h4⟩
  obtain⟨l,hl,hp⟩:=aA8 _ len hn;have ho:len<2 ^ 63:=by simp only[maxLen] at Y;omega
  refine⟨⟨l,by omega⟩,rfl,fun j I=>?_⟩;obtain rfl:j=0:=by omega
  refine⟨rfl,?_⟩;simp only[List.getD_cons_zero]
  have F:∀i j,i<len→j<k→w.cell? ⟨A.block,A.off+(i*k+j),A.spot⟩=some ((w.cell? ⟨A.block,A.off+(i*k+j),A.spot⟩).getD undef)∧A.spot=none∧
    ((w.cell? ⟨A.block,A.off+(i*k+j),A.spot⟩).getD undef).oneCell'=true∧∃a,l[i]? = some a∧RC (fun b=>b<w.heap.size) w ((e a).getD j .junk) ((w.cell? ⟨A.block,A.off+(i*k+j),A.spot⟩).getD undef):=by
   intro i j hi I;obtain⟨a,ha⟩:∃a,l[i]? = some a:=⟨l[i],by simp[show i<l.length by omega]⟩
   have G:A.spot=none:=by
    obtain⟨a0,M⟩:∃a,l[0]? = some a:=⟨l[0],by simp[show 0<l.length by omega]⟩;obtain⟨hf,h0,_⟩:=hp 0 a0 M;obtain⟨_,hu,hg⟩:=World.cells?_some h0;have:=hg 0 hk;simp only[Nat.zero_mul,Addr.add,if_true] at this;rw[List.getElem?_eq_getElem (by omega)] at this;unfold World.cell? at this;split at this
    ·split at this
     ·cases this
     ·rename_i hs;simpa using hs
    ·cases this
   obtain⟨cs,h2,h4⟩:=hp i a ha;obtain⟨_,h5,h6⟩:=World.cells?_some h2;have U:=h6 j I
   have e1:(A.add (i*k)).add j=⟨A.block,A.off+(i*k+j),A.spot⟩:=by
    obtain⟨b,o,s⟩:=A;simp only at G;subst G;simp only[Addr.add];split<;>split<;>simp_all [Nat.add_assoc]
   rw[e1] at U;have hm:cs[j]? = some (cs.getD j undef):=by simp[List.getD,show j<cs.length by omega]
   rw[U,hm];exact⟨rfl,G,(h4 j I).1,a,ha,(h4 j I).2⟩
  have hS:l≠[]→A.block<w.heap.size:=by
   intro O;have:0<len:=by rw[←hl];exact List.length_pos_iff.2 O
   obtain⟨a0,M⟩:∃a,l[0]? = some a:=⟨l[0],by simp[show 0<l.length by omega]⟩;obtain⟨hf,h0,_⟩:=hp 0 a0 M;have:=World.cells?_block h0 hk;simpa[Addr.add] using this
  have hd:RC (fun b=>b<w.heap.size) w (.sl k (l.map e)) (.slice (some A) (l.map e).length cap):=by
   refine .sl k _ _ cap A.block A.off (fun m=>(w.cell? ⟨A.block,A.off+m,A.spot⟩).getD undef) (fun O=>?_) (fun i j hi I=>?_) (fun i j hi I=>?_) (fun i j hi I=>?_) (fun i hi=>?_) ⟨by simp;omega,by simp only[maxLen] at Y;omega⟩
   ·have J:l≠[]:=by rintro rfl;exact O rfl
    have:0<len:=by rw[←hl];exact List.length_pos_iff.2 J
    have hs:=(F 0 0 this hk).2.1;obtain⟨b,o,s⟩:=A;simp only at hs;subst hs;exact⟨rfl,hS J⟩
   ·simp only[List.length_map] at hi;have:=F i j (by omega) I;rw[←this.1,this.2.1]
   ·simp only[List.length_map] at hi;exact(F i j (by omega) I).2.2.1
   ·simp only[List.length_map] at hi;obtain⟨_,_,_,a,ha,hr⟩:=F i j (by omega) I;have e2:(l.map e).getD i []=e a:=by simp[List.getD,ha]
    rw[e2];exact hr
   ·simp only[List.length_map] at hi;have:(l.map e).getD i []=e l[i]:=by simp[List.getD,hi]
    rw[this];exact g2 _
  have e3:(l.map e).length=len:=by simp[hl]
  rw[e3] at hd;exact hd
theorem aFL {W F:World} (H:F.os=W.os∧F.output=W.output) (h:∀b,b<W.heap.size→F.heap[b]? = W.heap[b]?) (G:MemPlace→Prop):W.keptBut F G:=by
 refine⟨H.1,H.2,fun i hi=>?_⟩;rw[h i hi];cases W.heap[i]? with
 |none=>rfl
 |some o=>cases o<;>first|exact⟨rfl,rfl,rfl,fun _ _=>rfl⟩|exact .inr ⟨rfl,rfl⟩|rfl
theorem y7 {H:Type}{enc:TypeId×Value→H} (L:laidOutB P=true) {W I:World} (h:∀b,b<W.heap.size→I.heap[b]? = W.heap[b]?) :
  ∀ {ts:List TypeId}{vs:List Value}{G:List (DataW H)}{p:List MemPlace},(∀t,t∈ts→P.readableRec t=true∧t<P.types.size)→DataW.TrodAll enc P W 0 (fun _=>true) true ts vs G p→(∀x,x∈p→x.block<W.heap.size)→
   DataW.TrodAll enc P I 0 (fun b=>decide (b<W.heap.size)) true ts vs G p
 | [],[],[],p,_,hA,_=>hA
 | t::ts,v::vs,d::G,p,ht,⟨a,b,h1,h2,e⟩,hp=>by
  subst e;refine⟨a,b,WideElems.Trod_stays L (ht t (by simp)).1 (ht t (by simp)).2 h1 (fun x F=>?_) (fun x F=>?_),y7 L h (fun u M=>ht u (by simp[M])) h2 (fun x F=>hp x (by simp[F])),rfl⟩
  ·have J:=hp x (by simp[F]);cases x with
   |cell b off=>exact cell?_of_block (h b J)
   |map b=>exact h b J
  ·simpa using hp x (by simp[F])
 | [],[],_::_,p,_,hA,_=>hA.elim
 | [],_::_,_,p,_,hA,_=>hA.elim
 |_::_,[],_,p,_,hA,_=>hA.elim
 |_::_,_::_,[],p,_,hA,_=>hA.elim
theorem aIY {H:Type}{enc:TypeId×Value→H}{s:ChangeSpec}{fn:Func}{f:FuncId}{W:World}{args:Array Value}{J L:List (DataW H)}{F:List MemPlace}{tb:TypeId}
  (hl:laidOutB P=true) (hm:(fn.params.toList.all fun t=>P.readableRec t&&decide (t<P.types.size))=true) (hg:fn.resultTypes=#[tb]) (hn:P.underlying tb=some .bool)
  (hW:DataW.Whole enc P fn.params.toList s.vars false W args.toList J L F) (G:s.vars=[])
  (hs:(s.fn H (J++L)).results=[.lit (.bool true)]∧(s.fn H (J++L)).args=J∧(s.fn H (J++L)).vars=[])
  (M:Env (fun b=>b<W.heap.size) W) {xs:List AV} (hd:Fn P f [] xs (.v (.bool true)) []) (hk:args.size=xs.length) (hr:∀j,j<xs.length→RC (fun b=>b<W.heap.size) W (xs.getD j .junk) (args.getD j undef)) :
  Calls P f args W fun e U=>∃v,e=.returned v∧s.post enc P fn false true false false W args v U:=by
 have ho:∀t,t∈fn.params.toList→P.readableRec t=true∧t<P.types.size:=by
  intro t ht;have:=List.all_eq_true.1 hm t ht;simpa using this
 have hc:=hd.2 (fun b=>b<W.heap.size) W (fun _=>none) (fun _=>0) args ⟨fun n b hb=>by cases n<;>simp[Hn] at hb,fun n m x h1=>by cases n<;>simp[Hn] at h1,fun _ h=>h,M⟩ (by simp) hk (fun j hj=>.clo (hr j hj));refine hc.mono ?_;rintro e U ⟨v,S',ρ',κ',rfl,hpost,hv⟩;refine⟨v,rfl,?_⟩;obtain rfl:v=.bool true:=bM hv;have I:∀b,b<W.heap.size→U.heap[b]? = W.heap[b]?:=fun b hb=>hpost.old b hb (by rintro⟨j,hj,_⟩;simp at hj);obtain⟨p,q,Y,hV,O,he,hf⟩:=hW;have ha:L=[]∧q=[]:=by rw[G] at hV;exact trodVars_none hV
 obtain⟨rfl,rfl⟩:=ha;simp only[List.append_nil] at O;subst O;refine⟨J,[],F,[],F,[],⟨F,[],Y,hV,by simp,he,hf⟩,?_,?_,?_,aFL hpost.out I _,fun h=>by cases h⟩
 ·rw[hg,hs.1];exact trodAll_mk1 (shut_bool hn _)
 ·rw[hs.2.1];exact y7 hl I ho Y (fun x hx=>DataW.TrodAll.lt Y x hx)
 ·rw[G,hs.2.2];rfl
theorem aDY {t:TypeId}{α:Type}{e:α→List AV} (G:dE P t 1 e) {H:Type}{enc:TypeId×Value→H}{W:World}{v:Value}{d:DataW H}{p:List MemPlace} (I:v.cells=#[v])
  (h:DataW.Trod enc P W 0 (fun _=>true) true t v d p):∃a,RC (fun b=>b<W.heap.size) W ((e a).getD 0 .junk) v:=by
 obtain⟨n,F⟩:=h;rw[I] at F;obtain⟨a,_,h2⟩:=G.2.2 H enc W _ n _ _ F;exact⟨a,by simpa using(h2 0 (by omega)).2⟩
theorem aKQ {t:TypeId}{α:Type}{k:Nat}{e:α→List AV} (F:dE P t k e) {H:Type}{enc:TypeId×Value→H}{W:World}{cs:Array Value}{d:DataW H}{p:List MemPlace}
  (h:DataW.Trod enc P W 0 (fun _=>true) true t (.agg cs) d p):∃a,RC (fun b=>b<W.heap.size) W (.agg (e a)) (.agg cs):=by
 obtain⟨n,J⟩:=h;obtain⟨a,G,h2⟩:=F.2.2 H enc W _ n _ _ J;simp only[Value.cells,Array.length_toList] at G;refine⟨a,.agg _ _ (by rw[F.2.1,G]) fun j I=>?_⟩;rw[F.2.1] at I;have:=(h2 j I).2;simpa[Value.cells,List.getD,Array.getD_eq_getD_getElem?] using this
end Go.Vs
