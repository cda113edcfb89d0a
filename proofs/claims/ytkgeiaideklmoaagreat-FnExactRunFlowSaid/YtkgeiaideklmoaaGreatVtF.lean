/- Lists of values, row by row; plain facts for loops. -/
import Derived.Test.YtkgeiaideklmoaaGreatVtE
set_option linter.all false
set_option maxHeartbeats 8000000
namespace Go.Vs
variable [Envs]
def E {α:Type} (c:α->List AV) (l:List α):List (List AV):=l.map c
variable {α:Type}{c:α->List AV}
theorem aH (l:List α):(E c l).length=l.length:=by simp[E]
theorem aN {l:List α}{i:Nat} (h:i<l.length):(E c l).getD i []=c l[i]:=by simp[E,List.getD,h]
theorem aOi (l:List α):(E c l).take l.length=E c l:=Aj (by simp[E])
theorem aMZ (l:List α):(E c l).drop 0=E c l:=rfl
theorem bH (l m:List α):E c (l++m)=E c l++E c m:=by simp[E]
theorem aGD {l:List α}{i:Nat} (h:i<l.length) {x:List AV} (H:x=c l[i]) (z:List AV) :
  (E c (l.take i)++List.replicate (l.length-i) z).set i x=E c (l.take (i+1))++List.replicate (l.length-(i+1)) z:=by
 subst H;have F:(E c (l.take i)).length=i:=by simp[E];omega
 rw[Cy _ _ (by omega),F,Cw,show l.length-i=(l.length-(i+1))+1 by omega,Af,Ac]
 have e:E c (l.take (i+1))=E c (l.take i)++[c l[i]]:=by
  simp only[E,List.take_add_one,Ba h,Option.toList_some,Bu,BD,BX]
 rw[e,Bw,List.singleton_append]
theorem aDv {l:List α}{i:Nat} (h:i<l.length) (z:List AV):(E c (l.take i)++List.replicate (l.length-i) z).getD i []=z:=by
 have F:(E c (l.take i)).length=i:=by simp[E];omega
 simp only[List.getD];rw[Bi (by omega),F,Cw,List.getElem?_replicate,AP (by omega)];rfl
theorem aGE (l:List α) (z:List AV):E c (l.take l.length)++List.replicate (l.length-l.length) z=E c l:=by simp[E]
theorem aG {i n:Nat} (h:i<n) (F:n<=1048576):IntKind.i64.wrap ((i:Int)+1)=((i+1:Nat):Int):=by
 rw[aR (by omega) (by omega)];omega
theorem bD {l:List α}{p:α->Bool}{i:Nat} (hi:i<l.length) (h:(l.take i).all p=true) (F:p l[i]=true):(l.take (i+1)).all p=true:=by
 rw[List.take_add_one,Ba hi];simp only[Option.toList_some,List.all_append,BK,DL,h,F,Bool.and_true]
theorem gY {l:List α}{p:α->Bool}{i:Nat} (hi:i<l.length) (F:p l[i]=false):l.all p=false:=by
 cases h:l.all p with
 |false=>rfl
 |true=>rw[Az.1 h l[i] (Aa hi)] at F;cases F
theorem aY {l:List α}{i:Nat} (hi:i<l.length):l.take (i+1)=l.take i++[l[i]]:=by
 rw[List.take_add_one,Ba hi];rfl
def wC (f:α->Int->Int):List α->Int->Int
 | [],n=>n
 |x::r,n=>if f x n<0 then -1 else wC f r (f x n)
def szL (f:α->Int->Int) (l:List α) (n:Int):Int:=
 if IntKind.i64.wrap (n-l.length)<0 then -1 else wC f l (IntKind.i64.wrap (n-l.length))
theorem aDN (f:α->Int->Int) {l:List α}{i:Nat} (n:Int) (h:i<l.length):wC f (l.drop i) n=if f l[i] n<0 then -1 else wC f (l.drop (i+1)) (f l[i] n):=by
 rw[BS h];rfl
theorem aFq (f:α->Int->Int) {l:List α} (n:Int):wC f (l.drop l.length) n=n:=by simp[wC]
theorem aHT {f:α->Int->Int}:∀{l:List α}{n:Int},(∀x,x∈l->∀n,0<=n->n<=1048576->0<=f x n->f x n<=n)->0<=n->n<=1048576->0<=wC f l n->wC f l n<=n
 | [],n,_,_,_,h=>Int.le_refl n
 | x::r,n,hf,h0,hn,h=>by
  simp only[wC] at h⊢;split
  .rename_i F;rw[AP F] at h;omega
  .rename_i F;rw[AB F] at h;have h2:=hf x (by simp) n h0 hn (by omega);have:=aHT (λy H=>hf y (by simp[H])) (by omega) (by omega) h;omega
theorem aHR {f:α->Int->Int}{l:List α}{n:Int} (H:l.length<2 ^ 63) (I:0<=n∧n<=1048576) (h:¬szL f l n<0):(l.length:Int)<=n:=by
 unfold szL at h;split at h
 .omega
 .rename_i F;rw[aR (by omega) (by omega)] at F;omega
def szT (s:ByteArray) (n:Int):Int:=if IntKind.i64.wrap (n-s.size)<0 then -1 else IntKind.i64.wrap (n-s.size)
theorem aEB {s:ByteArray}{n:Int} (I:s.size<2 ^ 63) (h0:0<=n) (H:n<=1048576) (h:0<=szT s n):szT s n<=n∧(s.size:Int)<=n:=by
 unfold szT at h⊢;split
 .rename_i F;rw[AP F] at h;omega
 .rename_i F;rw[aR (by omega) (by omega)] at F⊢;omega
def zY:AV->Bool
 |.v x=>x.oneCell'
 |.sl _ _=>true
 |.ro _=>true
 |_=>false
def dS (c:List AV):Bool:=c.all zY
theorem aF {l:List AV} (F:dS l=true) (h:Name->Option Blk) (m:Nat) (E:List Name) (b:Bool):fD (conv h (m+1) E b) l=some (l,[]):=by
 induction l with
 |nil=>rfl
 | cons x r ih =>
  simp only[dS,BK,Av] at F;have H:=ih F.2
  have I:conv h (m+1) E b x=some (x,[]):=by
   have:=F.1;cases x<;>simp[zY] at this<;>rfl
  simp only[fD,I,H,Be]
theorem aFE {l:List AV} (F:dS l=true) (φ:Name->Option Name):rnL φ l=l:=by
 induction l with
 |nil=>rfl
 | cons x r ih =>
  simp only[dS,BK,Av] at F
  have H:rn φ x=x:=by
   have:=F.1;cases x<;>simp[zY] at this<;>rfl
  simp only[rnL,H,ih F.2]
theorem aEk {l:List AV} (F:dS l=true):pI l=true:=by
 induction l with
 |nil=>rfl
 | cons x r ih =>
  simp only[dS,BK,Av] at F
  have H:dA x=true:=by
   have:=F.1;cases x<;>simp[zY] at this<;>rfl
  simp only[pI,H,ih F.2,Bool.and_self]
theorem aIJ {l:List AV} (F:dS l=true) (h:Name->Option Blk):l.all (oQ h)=true:=by
 refine Az.2 λx H=>?_;have:=Az.1 F x H;cases x<;>simp[zY] at this<;>simp[oQ,this]
def aHG (z:List AV):Bool:=z.all λx=>match x with|.v y=>y.oneCell'|_=>false
theorem aCr {z:List AV} (H:aHG z=true) (h:Name->Option Blk):(z.all λx=>oQ h x&&dA x)=true:=by
 refine Az.2 λx F=>?_;have:=Az.1 H x F;cases x<;>simp at this;simp[oQ,dA,this]
theorem lay_all:∀(cs z:List AV) (p:List AV),z.length=cs.length->lay (p++z) p.length cs=p++cs
 | [],[],p,_=>rfl
 | [],_::_,p,h=>by simp at h
 |_::_,[],p,h=>by simp at h
 | x::cs,y::z,p,h=>by
  rw[lay];have e:(p++y::z).set p.length x=(p++[x])++z:=by simp
  rw[e];have:=lay_all cs z (p++[x]) (by simpa using h);rw[AQ,Cf] at this;rw[this];simp
theorem aBr {cs z:List AV} (h:z.length=cs.length):lay z 0 cs=cs:=by
 have:=lay_all cs z [] h;simpa using this
attribute [go_sem] aH aOi aMZ Ao
end Go.Vs
