/- Lists of values, row by row; plain facts for loops. -/
import Derived.Test.YtkgeiaideklmoaaGreatVtE
set_option linter.all false
set_option maxHeartbeats 8000000
namespace Go.Vs
variable [Envs]
def E {α:Type} (c:α->List AV) (l:List α):List (List AV):=l.map c
variable {α:Type}{c:α->List AV}
theorem aH (l:List α):(E c l).length=l.length:=by simp[E]
theorem aN {l:List α}{i:Nat} (h:i<l.length):(E c l).getD i []=c l[i]:=by simp[E,List.getD,h]
theorem aNu (l:List α):(E c l).take l.length=E c l:=Ah (by simp[E])
theorem aMk (l:List α):(E c l).drop 0=E c l:=rfl
theorem bG (l m:List α):E c (l++m)=E c l++E c m:=by simp[E]
theorem aGd {l:List α}{i:Nat} (h:i<l.length) {x:List AV} (H:x=c l[i]) (z:List AV) :
  (E c (l.take i)++List.replicate (l.length-i) z).set i x=E c (l.take (i+1))++List.replicate (l.length-(i+1)) z:=by
 subst H;have F:(E c (l.take i)).length=i:=by simp[E];omega
 rw[Cy _ _ (by omega),F,Cw,show l.length-i=(l.length-(i+1))+1 by omega,Af,Ad]
 have e:E c (l.take (i+1))=E c (l.take i)++[c l[i]]:=by
  simp only[E,List.take_add_one,Ba h,Option.toList_some,Bu,Bt,BI]
 rw[e,Bz,List.singleton_append]
theorem aC8 {l:List α}{i:Nat} (h:i<l.length) (z:List AV):(E c (l.take i)++List.replicate (l.length-i) z).getD i []=z:=by
 have F:(E c (l.take i)).length=i:=by simp[E];omega
 simp only[List.getD];rw[Bi (by omega),F,Cw,List.getElem?_replicate,AP (by omega)];rfl
theorem aGe (l:List α) (z:List AV):E c (l.take l.length)++List.replicate (l.length-l.length) z=E c l:=by simp[E]
theorem aG {i n:Nat} (h:i<n) (F:n<=1048576):IntKind.i64.wrap ((i:Int)+1)=((i+1:Nat):Int):=by
 rw[aV (by omega) (by omega)];omega
theorem bD {l:List α}{p:α->Bool}{i:Nat} (hi:i<l.length) (h:(l.take i).all p=true) (F:p l[i]=true):(l.take (i+1)).all p=true:=by
 rw[List.take_add_one,Ba hi];simp only[Option.toList_some,List.all_append,BJ,DL,h,F,Bool.and_true]
theorem gU {l:List α}{p:α->Bool}{i:Nat} (hi:i<l.length) (F:p l[i]=false):l.all p=false:=by
 cases h:l.all p with
 |false=>rfl
 |true=>rw[Az.1 h l[i] (Aa hi)] at F;cases F
theorem aX {l:List α}{i:Nat} (hi:i<l.length):l.take (i+1)=l.take i++[l[i]]:=by
 rw[List.take_add_one,Ba hi];rfl
def vM (f:α->Int->Int):List α->Int->Int
 | [],n=>n
 |x::r,n=>if f x n<0 then -1 else vM f r (f x n)
def szL (f:α->Int->Int) (l:List α) (n:Int):Int:=
 if IntKind.i64.wrap (n-l.length)<0 then -1 else vM f l (IntKind.i64.wrap (n-l.length))
theorem aDq (f:α->Int->Int) {l:List α}{i:Nat} (n:Int) (h:i<l.length):vM f (l.drop i) n=if f l[i] n<0 then -1 else vM f (l.drop (i+1)) (f l[i] n):=by
 rw[Ci h];rfl
theorem aEY (f:α->Int->Int) {l:List α} (n:Int):vM f (l.drop l.length) n=n:=by simp[vM]
theorem aHm {f:α->Int->Int}:∀{l:List α}{n:Int},(∀x,x∈l->∀n,0<=n->n<=1048576->0<=f x n->f x n<=n)->0<=n->n<=1048576->0<=vM f l n->vM f l n<=n
 | [],n,_,_,_,h=>Int.le_refl n
 | x::r,n,hf,h0,hn,h=>by
  simp only[vM] at h⊢;split
  .rename_i F;rw[AP F] at h;omega
  .rename_i F;rw[AC F] at h;have h2:=hf x (by simp) n h0 hn (by omega);have:=aHm (λy H=>hf y (by simp[H])) (by omega) (by omega) h;omega
theorem aLi {f:α->Int->Int}{l:List α}{n:Int} (H:l.length<2 ^ 63) (I:0<=n∧n<=1048576) (h:¬szL f l n<0):(l.length:Int)<=n:=by
 unfold szL at h;split at h
 .omega
 .rename_i F;rw[aV (by omega) (by omega)] at F;omega
def szT (s:ByteArray) (n:Int):Int:=if IntKind.i64.wrap (n-s.size)<0 then -1 else IntKind.i64.wrap (n-s.size)
theorem aGk {s:ByteArray}{n:Int} (I:s.size<2 ^ 63) (h0:0<=n) (H:n<=1048576) (h:0<=szT s n):szT s n<=n∧(s.size:Int)<=n:=by
 unfold szT at h⊢;split
 .rename_i F;rw[AP F] at h;omega
 .rename_i F;rw[aV (by omega) (by omega)] at F⊢;omega
def zH:AV->Bool
 |.v x=>x.oneCell'
 |.sl _ _=>true
 |.ro _=>true
 |_=>false
def dS (c:List AV):Bool:=c.all zH
theorem aF {l:List AV} (F:dS l=true) (h:Name->Option Blk) (m:Nat) (E:List Name) (b:Bool):fC (conv h (m+1) E b) l=some (l,[]):=by
 induction l with
 |nil=>rfl
 | cons x r ih =>
  simp only[dS,BJ,Aw] at F;have H:=ih F.2
  have I:conv h (m+1) E b x=some (x,[]):=by
   have:=F.1;cases x<;>simp[zH] at this<;>rfl
  simp only[fC,I,H,Be]
theorem aFb {l:List AV} (F:dS l=true) (φ:Name->Option Name):rnL φ l=l:=by
 induction l with
 |nil=>rfl
 | cons x r ih =>
  simp only[dS,BJ,Aw] at F
  have H:rn φ x=x:=by
   have:=F.1;cases x<;>simp[zH] at this<;>rfl
  simp only[rnL,H,ih F.2]
theorem aDU {l:List AV} (F:dS l=true):oV l=true:=by
 induction l with
 |nil=>rfl
 | cons x r ih =>
  simp only[dS,BJ,Aw] at F
  have H:cZ x=true:=by
   have:=F.1;cases x<;>simp[zH] at this<;>rfl
  simp only[oV,H,ih F.2,Bool.and_self]
theorem aH8 {l:List AV} (F:dS l=true) (h:Name->Option Blk):l.all (oJ h)=true:=by
 refine Az.2 λx H=>?_;have:=Az.1 F x H;cases x<;>simp[zH] at this<;>simp[oJ,this]
def aHc (z:List AV):Bool:=z.all λx=>match x with|.v y=>y.oneCell'|_=>false
theorem aCb {z:List AV} (H:aHc z=true) (h:Name->Option Blk):(z.all λx=>oJ h x&&cZ x)=true:=by
 refine Az.2 λx F=>?_;have:=Az.1 H x F;cases x<;>simp at this;simp[oJ,cZ,this]
theorem lay_all:∀(cs z:List AV) (p:List AV),z.length=cs.length->lay (p++z) p.length cs=p++cs
 | [],[],p,_=>rfl
 | [],_::_,p,h=>by simp at h
 |_::_,[],p,h=>by simp at h
 | x::cs,y::z,p,h=>by
  rw[lay];have e:(p++y::z).set p.length x=(p++[x])++z:=by simp
  rw[e];have:=lay_all cs z (p++[x]) (by simpa using h);rw[AX,Cf] at this;rw[this];simp
theorem aBa {cs z:List AV} (h:z.length=cs.length):lay z 0 cs=cs:=by
 have:=lay_all cs z [] h;simpa using this
attribute [go_sem] aH aNu aMk Ak
end Go.Vs
