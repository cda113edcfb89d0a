/- Lists of values, row by row; plain facts for loops. -/
import Derived.Test.YtfoddghhlagenaaGreatDoorVtE
set_option linter.all false
set_option maxHeartbeats 8000000
namespace Go.Vs
variable [Envs]
def E {α:Type} (c:α->List AV) (l:List α):List (List AV):=l.map c
variable {α:Type}{c:α->List AV}
theorem aJ (l:List α):(E c l).length=l.length:=by simp[E]
theorem bI {l:List α}{i:Nat} (h:i<l.length):(E c l).getD i []=c l[i]:=by simp[E,List.getD,h]
theorem aGF (l:List α):(E c l).take l.length=E c l:=List.take_of_length_le (by simp[E])
theorem aFw (l:List α):(E c l).drop 0=E c l:=rfl
theorem bR (l m:List α):E c (l++m)=E c l++E c m:=by simp[E]
theorem aQ {i n:Nat} (h:i<n) (hn:n<=1048576):IntKind.i64.wrap ((i:Int)+1)=((i+1:Nat):Int):=by
 rw[aG (by omega) (by omega)];omega
theorem bP {l:List α}{p:α->Bool}{i:Nat} (hi:i<l.length) (h:(l.take i).all p=true) (hp:p l[i]=true):(l.take (i+1)).all p=true:=by
 rw[List.take_add_one,List.getElem?_eq_getElem hi]
 simp only[Option.toList_some,List.all_append,List.all_cons,List.all_nil,h,hp,Bool.and_true]
theorem jY {l:List α}{p:α->Bool}{i:Nat} (hi:i<l.length) (hp:p l[i]=false):l.all p=false:=by
 cases h:l.all p with
 |false=>rfl
 |true=>rw[List.all_eq_true.1 h l[i] (List.getElem_mem hi)] at hp;cases hp
theorem dP {l:List α}{i:Nat} (hi:i<l.length):l.take (i+1)=l.take i++[l[i]]:=by
 rw[List.take_add_one,List.getElem?_eq_getElem hi];rfl
def aFK:AV->Bool
 |.v x=>x.oneCell'
 |.sl _ _=>true
 |.ro _=>true
 |_=>false
def vC (c:List AV):Bool:=c.all aFK
theorem iM {l:List AV} (hl:vC l=true) (h:Name->Option Blk) (m:Nat) (E:List Name) (b:Bool):bO (conv h (m+1) E b) l=some (l,[]):=by
 induction l with
 |nil=>rfl
 | cons x r ih =>
  simp only[vC,List.all_cons,Bool.and_eq_true] at hl
  have hr:=ih hl.2
  have hx:conv h (m+1) E b x=some (x,[]):=by
   have:=hl.1
   cases x<;>simp[aFK] at this<;>rfl
  simp only[bO,hx,hr,List.append_nil]
attribute [go_sem] aJ aGF aFw List.not_mem_nil
end Go.Vs
