/- Lists of values, row by row; plain facts for loops. -/
import Derived.Test.YtmiiohemehacjaaGreatDoorVtE
set_option linter.all false
set_option maxHeartbeats 8000000
namespace Go.Vs
variable [Envs]
def E {α:Type} (c:α->List AV) (l:List α):List (List AV):=l.map c
variable {α:Type}{c:α->List AV}
theorem aH (l:List α):(E c l).length=l.length:=by simp[E]
theorem aR {l:List α}{i:Nat} (h:i<l.length):(E c l).getD i []=c l[i]:=by simp[E,List.getD,h]
theorem aNq (l:List α):(E c l).take l.length=E c l:=Ag (by simp[E])
theorem aL7 (l:List α):(E c l).drop 0=E c l:=rfl
theorem aS (l m:List α):E c (l++m)=E c l++E c m:=by simp[E]
theorem aI {i n:Nat} (h:i<n) (u:n<=1048576):IntKind.i64.wrap ((i:Int)+1)=((i+1:Nat):Int):=by
 rw[aM (by omega) (by omega)];omega
theorem bH {l:List α}{p:α->Bool}{i:Nat} (hi:i<l.length) (h:(l.take i).all p=true) (u:p l[i]=true):(l.take (i+1)).all p=true:=by
 rw[List.take_add_one,Bf hi];simp only[Option.toList_some,List.all_append,BO,Dw,h,u,Bool.and_true]
theorem iD {l:List α}{p:α->Bool}{i:Nat} (hi:i<l.length) (u:p l[i]=false):l.all p=false:=by
 cases h:l.all p with
 |false=>rfl
 |true=>rw[Aw.1 h l[i] (Am hi)] at u;cases u
theorem bU {l:List α}{i:Nat} (hi:i<l.length):l.take (i+1)=l.take i++[l[i]]:=by
 rw[List.take_add_one,Bf hi];rfl
def aKK:AV->Bool
 |.v x=>x.oneCell'
 |.sl _ _=>true
 |.ro _=>true
 |_=>false
def jD (c:List AV):Bool:=c.all aKK
theorem aG {l:List AV} (u:jD l=true) (h:Name->Option Blk) (m:Nat) (E:List Name) (b:Bool):dF (conv h (m+1) E b) l=some (l,[]):=by
 induction l with
 |nil=>rfl
 | cons x r ih =>
  simp only[jD,BO,Au] at u;have F:=ih u.2
  have G:conv h (m+1) E b x=some (x,[]):=by
   have:=u.1;cases x<;>simp[aKK] at this<;>rfl
  simp only[dF,G,F,AA]
attribute [go_sem] aH aNq aL7 Az
end Go.Vs
