/- Lists of values, row by row; plain facts for loops. -/
import Derived.Test.YthfnpdhpefialaaGreatVtE
set_option linter.all false
set_option maxHeartbeats 8000000
namespace Go.Vs
variable [Envs]
def E {α:Type} (c:α→List AV) (l:List α):List (List AV):=l.map c
variable {α:Type}{c:α→List AV}
theorem E_len (l:List α):(E c l).length=l.length:=by simp[E]
theorem E_get {l:List α}{i:Nat} (h:i<l.length):(E c l).getD i []=c l[i]:=by simp[E,List.getD,h]
theorem E_take (l:List α):(E c l).take l.length=E c l:=List.take_of_length_le (by simp[E])
theorem E_drop0 (l:List α):(E c l).drop 0=E c l:=rfl
theorem E_append (l m:List α):E c (l++m)=E c l++E c m:=by simp[E]
theorem E_set {l:List α}{i:Nat} (h:i<l.length) {x:List AV} (hx:x=c l[i]) (z:List AV) :
  (E c (l.take i)++List.replicate (l.length-i) z).set i x=E c (l.take (i+1))++List.replicate (l.length-(i+1)) z:=by
 subst hx
 have h1:(E c (l.take i)).length=i:=by simp[E];omega
 rw[List.set_append_right _ _ (by omega),h1,Nat.sub_self,show l.length-i=(l.length-(i+1))+1 by omega,List.replicate_succ,List.set_cons_zero]
 have e:E c (l.take (i+1))=E c (l.take i)++[c l[i]]:=by
  simp only[E,List.take_add_one,List.getElem?_eq_getElem h,Option.toList_some,List.map_append,List.map_cons,List.map_nil]
 rw[e,List.append_assoc,List.singleton_append]
theorem E_rget {l:List α}{i:Nat} (h:i<l.length) (z:List AV):(E c (l.take i)++List.replicate (l.length-i) z).getD i []=z:=by
 have h1:(E c (l.take i)).length=i:=by simp[E];omega
 simp only[List.getD]
 rw[List.getElem?_append_right (by omega),h1,Nat.sub_self,List.getElem?_replicate,if_pos (by omega)]
 rfl
theorem E_all (l:List α) (z:List AV):E c (l.take l.length)++List.replicate (l.length-l.length) z=E c l:=by simp[E]
theorem wrap_succ {i n:Nat} (h:i<n) (hn:n≤1048576):IntKind.i64.wrap ((i:Int)+1)=((i+1:Nat):Int):=by
 rw[wrap_in (by omega) (by omega)];omega
theorem take_succ_all {l:List α}{p:α→Bool}{i:Nat} (hi:i<l.length) (h:(l.take i).all p=true) (hp:p l[i]=true):(l.take (i+1)).all p=true:=by
 rw[List.take_add_one,List.getElem?_eq_getElem hi]
 simp only[Option.toList_some,List.all_append,List.all_cons,List.all_nil,h,hp,Bool.and_true]
theorem not_all {l:List α}{p:α→Bool}{i:Nat} (hi:i<l.length) (hp:p l[i]=false):l.all p=false:=by
 cases h:l.all p with
 |false=>rfl
 |true=>rw[List.all_eq_true.1 h l[i] (List.getElem_mem hi)] at hp;cases hp
theorem take_succ {l:List α}{i:Nat} (hi:i<l.length):l.take (i+1)=l.take i++[l[i]]:=by
 rw[List.take_add_one,List.getElem?_eq_getElem hi];rfl
def szGo (f:α→Int→Int):List α→Int→Int
 | [],n=>n
 |x::r,n=>if f x n<0 then -1 else szGo f r (f x n)
def szL (f:α→Int→Int) (l:List α) (n:Int):Int:=
 if IntKind.i64.wrap (n-l.length)<0 then -1 else szGo f l (IntKind.i64.wrap (n-l.length))
theorem szGo_step (f:α→Int→Int) {l:List α}{i:Nat} (n:Int) (h:i<l.length):szGo f (l.drop i) n=if f l[i] n<0 then -1 else szGo f (l.drop (i+1)) (f l[i] n):=by
 rw[List.drop_eq_getElem_cons h];rfl
theorem szGo_end (f:α→Int→Int) {l:List α} (n:Int):szGo f (l.drop l.length) n=n:=by simp[szGo]
theorem szGo_le {f:α→Int→Int}:∀{l:List α}{n:Int},(∀x,x∈l→∀n,0≤n→n≤1048576→0≤f x n→f x n≤n)→0≤n→n≤1048576→0≤szGo f l n→szGo f l n≤n
 | [],n,_,_,_,h=>Int.le_refl n
 | x::r,n,hf,h0,hn,h=>by
  simp only[szGo] at h⊢
  split
  ·rename_i h1;rw[if_pos h1] at h;omega
  ·rename_i h1
   rw[if_neg h1] at h
   have h2:=hf x (by simp) n h0 hn (by omega)
   have:=szGo_le (fun y hy=>hf y (by simp[hy])) (by omega) (by omega) h
   omega
theorem szL_len {f:α→Int→Int}{l:List α}{n:Int} (hl:l.length<2 ^ 63) (hn:0≤n∧n≤1048576) (h:¬szL f l n<0):(l.length:Int)≤n:=by
 unfold szL at h
 split at h
 ·omega
 ·rename_i h1
  rw[wrap_in (by omega) (by omega)] at h1
  omega
theorem szL_le {f:α→Int→Int}{l:List α}{n:Int} (hf:∀x,x∈l→∀n,0≤n→n≤1048576→0≤f x n→f x n≤n) (hl:l.length<2 ^ 63) (hn:0≤n∧n≤1048576) (h:¬szL f l n<0):0≤szL f l n∧szL f l n≤1048576:=by
 unfold szL at h⊢
 split
 ·rename_i h1;rw[if_pos h1] at h;omega
 ·rename_i h1
  rw[if_neg h1] at h
  rw[wrap_in (by omega) (by omega)] at h h1⊢
  have:=szGo_le hf (by omega) (by omega) (show 0≤szGo f l (n-l.length) by omega)
  omega
def szT (s:ByteArray) (n:Int):Int:=if IntKind.i64.wrap (n-s.size)<0 then -1 else IntKind.i64.wrap (n-s.size)
theorem szT_le {s:ByteArray}{n:Int} (hs:s.size<2 ^ 63) (h0:0≤n) (hn:n≤1048576) (h:0≤szT s n):szT s n≤n∧(s.size:Int)≤n:=by
 unfold szT at h⊢
 split
 ·rename_i h1;rw[if_pos h1] at h;omega
 ·rename_i h1
  rw[wrap_in (by omega) (by omega)] at h1⊢
  omega
def cellB:AV→Bool
 |.v x=>x.oneCell'
 |.sl _ _=>true
 |.ro _=>true
 |_=>false
def cellsB (c:List AV):Bool:=c.all cellB
theorem conv_cells {l:List AV} (hl:cellsB l=true) (h:Name→Option Blk) (m:Nat) (E:List Name) (b:Bool):mapO (conv h (m+1) E b) l=some (l,[]):=by
 induction l with
 |nil=>rfl
 | cons x r ih =>
  simp only[cellsB,List.all_cons,Bool.and_eq_true] at hl
  have hr:=ih hl.2
  have hx:conv h (m+1) E b x=some (x,[]):=by
   have:=hl.1
   cases x<;>simp[cellB] at this<;>rfl
  simp only[mapO,hx,hr,List.append_nil]
theorem rn_cells {l:List AV} (hl:cellsB l=true) (φ:Name→Option Name):rnL φ l=l:=by
 induction l with
 |nil=>rfl
 | cons x r ih =>
  simp only[cellsB,List.all_cons,Bool.and_eq_true] at hl
  have hx:rn φ x=x:=by
   have:=hl.1
   cases x<;>simp[cellB] at this<;>rfl
  simp only[rnL,hx,ih hl.2]
theorem clo_cells {l:List AV} (hl:cellsB l=true):isCloL l=true:=by
 induction l with
 |nil=>rfl
 | cons x r ih =>
  simp only[cellsB,List.all_cons,Bool.and_eq_true] at hl
  have hx:isClo x=true:=by
   have:=hl.1
   cases x<;>simp[cellB] at this<;>rfl
  simp only[isCloL,hx,ih hl.2,Bool.and_self]
theorem all_one {l:List AV} (hl:cellsB l=true) (h:Name→Option Blk):l.all (oneB h)=true:=by
 refine List.all_eq_true.2 fun x hx=>?_
 have:=List.all_eq_true.1 hl x hx
 cases x<;>simp[cellB] at this<;>simp[oneB,this]
def zeroB (z:List AV):Bool:=z.all fun x=>match x with|.v y=>y.oneCell'|_=>false
theorem zero_all {z:List AV} (hz:zeroB z=true) (h:Name→Option Blk):(z.all fun x=>oneB h x&&isClo x)=true:=by
 refine List.all_eq_true.2 fun x hx=>?_
 have:=List.all_eq_true.1 hz x hx
 cases x<;>simp at this
 simp[oneB,isClo,this]
theorem lay_all:∀(cs z:List AV) (p:List AV),z.length=cs.length→lay (p++z) p.length cs=p++cs
 | [],[],p,_=>rfl
 | [],_::_,p,h=>by simp at h
 |_::_,[],p,h=>by simp at h
 | x::cs,y::z,p,h=>by
  rw[lay]
  have e:(p++y::z).set p.length x=(p++[x])++z:=by simp
  rw[e]
  have:=lay_all cs z (p++[x]) (by simpa using h)
  rw[List.length_append,List.length_singleton] at this
  rw[this];simp
theorem lay_cells {cs z:List AV} (h:z.length=cs.length):lay z 0 cs=cs:=by
 have:=lay_all cs z [] h
 simpa using this
attribute [go_sem] E_len E_take E_drop0 List.not_mem_nil
end Go.Vs
