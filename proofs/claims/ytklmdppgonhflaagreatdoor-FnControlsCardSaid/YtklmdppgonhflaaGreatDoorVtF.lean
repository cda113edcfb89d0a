/- Lists of values, row by row; plain facts for loops. -/
import Derived.Test.YtklmdppgonhflaaGreatDoorVtE
set_option linter.all false
set_option maxHeartbeats 8000000
namespace Go.Vs
variable [Envs]
def E {α:Type} (c:α->List AV) (l:List α):List (List AV):=l.map c
variable {α:Type}{c:α->List AV}
theorem aH (l:List α):(E c l).length=l.length:=by simp[E]
theorem aW {l:List α}{i:Nat} (h:i<l.length):(E c l).getD i []=c l[i]:=by simp[E,List.getD,h]
theorem aO4 (l:List α):(E c l).take l.length=E c l:=Ah (by simp[E])
theorem aNA (l:List α):(E c l).drop 0=E c l:=rfl
theorem aV (l m:List α):E c (l++m)=E c l++E c m:=by simp[E]
theorem aJ {i n:Nat} (h:i<n) (F:n<=1048576):IntKind.i64.wrap ((i:Int)+1)=((i+1:Nat):Int):=by
 rw[aI (by omega) (by omega)];omega
theorem bH {l:List α}{p:α->Bool}{i:Nat} (hi:i<l.length) (h:(l.take i).all p=true) (F:p l[i]=true):(l.take (i+1)).all p=true:=by
 rw[List.take_add_one,Ba hi];simp only[Option.toList_some,List.all_append,BJ,DL,h,F,Bool.and_true]
theorem iK {l:List α}{p:α->Bool}{i:Nat} (hi:i<l.length) (F:p l[i]=false):l.all p=false:=by
 cases h:l.all p with
 |false=>rfl
 |true=>rw[Az.1 h l[i] (Aa hi)] at F;cases F
theorem bM {l:List α}{i:Nat} (hi:i<l.length):l.take (i+1)=l.take i++[l[i]]:=by
 rw[List.take_add_one,Ba hi];rfl
def aL3:AV->Bool
 |.v x=>x.oneCell'
 |.sl _ _=>true
 |.ro _=>true
 |_=>false
def jN (c:List AV):Bool:=c.all aL3
theorem aG {l:List AV} (F:jN l=true) (h:Name->Option Blk) (m:Nat) (E:List Name) (b:Bool):dG (conv h (m+1) E b) l=some (l,[]):=by
 induction l with
 |nil=>rfl
 | cons x r ih =>
  simp only[jN,BJ,Aw] at F;have G:=ih F.2
  have H:conv h (m+1) E b x=some (x,[]):=by
   have:=F.1;cases x<;>simp[aL3] at this<;>rfl
  simp only[dG,H,G,Be]
attribute [go_sem] aH aO4 aNA Ak
end Go.Vs
