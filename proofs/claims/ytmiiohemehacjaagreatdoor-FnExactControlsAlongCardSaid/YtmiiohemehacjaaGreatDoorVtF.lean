/- Lists of values, row by row; plain facts for loops. -/
import Derived.Test.YtmiiohemehacjaaGreatDoorVtE
set_option linter.all false
set_option maxHeartbeats 8000000
namespace Go.Vs
variable [Envs]
def E {α:Type} (c:α->List AV) (l:List α):List (List AV):=l.map c
variable {α:Type}{c:α->List AV}
theorem aI (l:List α):(E c l).length=l.length:=by simp[E]
theorem aQ {l:List α}{i:Nat} (h:i<l.length):(E c l).getD i []=c l[i]:=by simp[E,List.getD,h]
theorem aLi (l:List α):(E c l).take l.length=E c l:=List.take_of_length_le (by simp[E])
theorem aMy (l:List α):(E c l).drop 0=E c l:=rfl
theorem aV (l m:List α):E c (l++m)=E c l++E c m:=by simp[E]
theorem aGt {l:List α}{i:Nat} (h:i<l.length) {x:List AV} (H:x=c l[i]) (z:List AV) :
  (E c (l.take i)++List.replicate (l.length-i) z).set i x=E c (l.take (i+1))++List.replicate (l.length-(i+1)) z:=by
 subst H;have F:(E c (l.take i)).length=i:=by simp[E];omega
 rw[List.set_append_right _ _ (by omega),F,Nat.sub_self,show l.length-i=(l.length-(i+1))+1 by omega,List.replicate_succ,List.set_cons_zero]
 have e:E c (l.take (i+1))=E c (l.take i)++[c l[i]]:=by
  simp only[E,List.take_add_one,List.getElem?_eq_getElem h,Option.toList_some,List.map_append,List.map_cons,List.map_nil]
 rw[e,List.append_assoc,List.singleton_append]
theorem aDn {l:List α}{i:Nat} (h:i<l.length) (z:List AV):(E c (l.take i)++List.replicate (l.length-i) z).getD i []=z:=by
 have F:(E c (l.take i)).length=i:=by simp[E];omega
 simp only[List.getD];rw[List.getElem?_append_right (by omega),F,Nat.sub_self,List.getElem?_replicate,if_pos (by omega)];rfl
theorem aGu (l:List α) (z:List AV):E c (l.take l.length)++List.replicate (l.length-l.length) z=E c l:=by simp[E]
theorem aH {i n:Nat} (h:i<n) (F:n<=1048576):IntKind.i64.wrap ((i:Int)+1)=((i+1:Nat):Int):=by
 rw[aO (by omega) (by omega)];omega
theorem aX {l:List α}{p:α->Bool}{i:Nat} (hi:i<l.length) (h:(l.take i).all p=true) (F:p l[i]=true):(l.take (i+1)).all p=true:=by
 rw[List.take_add_one,List.getElem?_eq_getElem hi];simp only[Option.toList_some,List.all_append,List.all_cons,List.all_nil,h,F,Bool.and_true]
theorem gG {l:List α}{p:α->Bool}{i:Nat} (hi:i<l.length) (F:p l[i]=false):l.all p=false:=by
 cases h:l.all p with
 |false=>rfl
 |true=>rw[List.all_eq_true.1 h l[i] (List.getElem_mem hi)] at F;cases F
theorem bB {l:List α}{i:Nat} (hi:i<l.length):l.take (i+1)=l.take i++[l[i]]:=by
 rw[List.take_add_one,List.getElem?_eq_getElem hi];rfl
def vX (f:α->Int->Int):List α->Int->Int
 | [],n=>n
 |x::r,n=>if f x n<0 then -1 else vX f r (f x n)
def szL (f:α->Int->Int) (l:List α) (n:Int):Int:=
 if IntKind.i64.wrap (n-l.length)<0 then -1 else vX f l (IntKind.i64.wrap (n-l.length))
theorem aDF (f:α->Int->Int) {l:List α}{i:Nat} (n:Int) (h:i<l.length):vX f (l.drop i) n=if f l[i] n<0 then -1 else vX f (l.drop (i+1)) (f l[i] n):=by
 rw[List.drop_eq_getElem_cons h];rfl
theorem aFe (f:α->Int->Int) {l:List α} (n:Int):vX f (l.drop l.length) n=n:=by simp[vX]
theorem aHH {f:α->Int->Int}:∀{l:List α}{n:Int},(∀x,x∈l->∀n,0<=n->n<=1048576->0<=f x n->f x n<=n)->0<=n->n<=1048576->0<=vX f l n->vX f l n<=n
 | [],n,_,_,_,h=>Int.le_refl n
 | x::r,n,hf,h0,hn,h=>by
  simp only[vX] at h⊢;split
  .rename_i F;rw[if_pos F] at h;omega
  .rename_i F;rw[if_neg F] at h;have h2:=hf x (by simp) n h0 hn (by omega);have:=aHH (λy H=>hf y (by simp[H])) (by omega) (by omega) h;omega
theorem aHF {f:α->Int->Int}{l:List α}{n:Int} (H:l.length<2 ^ 63) (I:0<=n∧n<=1048576) (h:¬szL f l n<0):(l.length:Int)<=n:=by
 unfold szL at h;split at h
 .omega
 .rename_i F;rw[aO (by omega) (by omega)] at F;omega
def szT (s:ByteArray) (n:Int):Int:=if IntKind.i64.wrap (n-s.size)<0 then -1 else IntKind.i64.wrap (n-s.size)
theorem aEq {s:ByteArray}{n:Int} (J:s.size<2 ^ 63) (H:0<=n) (I:n<=1048576) (h:0<=szT s n):szT s n<=n∧(s.size:Int)<=n:=by
 unfold szT at h⊢;split
 .rename_i F;rw[if_pos F] at h;omega
 .rename_i F;rw[aO (by omega) (by omega)] at F⊢;omega
def zK:AV->Bool
 |.v x=>x.oneCell'
 |.sl _ _=>true
 |.ro _=>true
 |_=>false
def dG (c:List AV):Bool:=c.all zK
theorem aG {l:List AV} (F:dG l=true) (h:Name->Option Blk) (m:Nat) (E:List Name) (b:Bool):eG (conv h (m+1) E b) l=some (l,[]):=by
 induction l with
 |nil=>rfl
 | cons x r ih =>
  simp only[dG,List.all_cons,Bool.and_eq_true] at F;have H:=ih F.2
  have I:conv h (m+1) E b x=some (x,[]):=by
   have:=F.1;cases x<;>simp[zK] at this<;>rfl
  simp only[eG,I,H,List.append_nil]
theorem aFq {l:List AV} (F:dG l=true) (φ:Name->Option Name):rnL φ l=l:=by
 induction l with
 |nil=>rfl
 | cons x r ih =>
  simp only[dG,List.all_cons,Bool.and_eq_true] at F
  have H:rn φ x=x:=by
   have:=F.1;cases x<;>simp[zK] at this<;>rfl
  simp only[rnL,H,ih F.2]
theorem aEa {l:List AV} (F:dG l=true):qA l=true:=by
 induction l with
 |nil=>rfl
 | cons x r ih =>
  simp only[dG,List.all_cons,Bool.and_eq_true] at F
  have H:fO x=true:=by
   have:=F.1;cases x<;>simp[zK] at this<;>rfl
  simp only[qA,H,ih F.2,Bool.and_self]
theorem aIt {l:List AV} (F:dG l=true) (h:Name->Option Blk):l.all (nN h)=true:=by
 refine List.all_eq_true.2 λx H=>?_;have:=List.all_eq_true.1 F x H;cases x<;>simp[zK] at this<;>simp[nN,this]
def aHv (z:List AV):Bool:=z.all λx=>match x with|.v y=>y.oneCell'|_=>false
theorem aCk {z:List AV} (H:aHv z=true) (h:Name->Option Blk):(z.all λx=>nN h x&&fO x)=true:=by
 refine List.all_eq_true.2 λx F=>?_;have:=List.all_eq_true.1 H x F;cases x<;>simp at this;simp[nN,fO,this]
theorem lay_all:∀(cs z:List AV) (p:List AV),z.length=cs.length->lay (p++z) p.length cs=p++cs
 | [],[],p,_=>rfl
 | [],_::_,p,h=>by simp at h
 |_::_,[],p,h=>by simp at h
 | x::cs,y::z,p,h=>by
  rw[lay];have e:(p++y::z).set p.length x=(p++[x])++z:=by simp
  rw[e];have:=lay_all cs z (p++[x]) (by simpa using h);rw[List.length_append,List.length_singleton] at this;rw[this];simp
theorem aBb {cs z:List AV} (h:z.length=cs.length):lay z 0 cs=cs:=by
 have:=lay_all cs z [] h;simpa using this
attribute [go_sem] aI aLi aMy List.not_mem_nil
end Go.Vs
