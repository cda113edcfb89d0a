/- Decimal numbers; the sum of a number's digits. -/
import Derived.Test.YtklmdppgonhflaaGreatDoorVsI
import Derived.Test.YtklmdppgonhflaaGreatDoorXwA
import Derived.Test.YtklmdppgonhflaaGreatDoorVtO
import Derived.Test.YtklmdppgonhflaaGreatDoorTryzShelf
set_option linter.all false
set_option maxHeartbeats 8000000
namespace Go.Proofs.YtklmdppgonhflaaGreatDoor
open Go.Vs
variable [Vs.Tab 0 Vs.powP]
attribute [local irreducible] Vs.Fn
theorem aEI (n:Int) (h0:-9223372036854775808<=n) (h1:n<=9223372036854775807):Fz F.lJ [.v (.int .i64 n),.v (.int .i64 10)] (.v (.string ⟨(Lib.itoa n).toArray⟩)):=by
 refine Fn.of_ext ⟨Tryz.f124,_,Tryz.func124,rfl,by decide⟩ λS w vs henv hsz hv=>?_;have e0:vs.getD 0 undef=.int .i64 n:=dD (hv 0 (by simp));have e1:vs.getD 1 undef=.int .i64 10:=dD (hv 1 (by simp))
 have hvs:vs=#[.int .i64 n,.int .i64 10]:=by
  apply Array.ext (by simpa using hsz);intro i hi hi2;simp at hi2 hsz;have hi3:i=0∨i=1:=by omega
  rcases hi3 with rfl|rfl
  .simpa[Array.getD,hsz] using e0
  .simpa[Array.getD,hsz] using e1
 subst hvs
 refine (Any.internal_strconv_FormatInt_10 Tryz.laysM246 n h0 h1 w (by
   obtain⟨_,T,fr,hcells⟩:=Vs.Tab.at (g:=0) (p:=Vs.powP) henv;unfold Lib.TabIs World.var?;refine(Cm (λo=>Option.bind o _) (by kernel_rfl:Tryz.prog.globalNamed _=some 0)).trans ?_;simp only[CQ]
   try dsimp only at hcells
   rw[hcells])).mono ?_
 rintro e w' ⟨rfl,k,os,rfl⟩;exact⟨_,rfl,.v _,aLM w k os⟩
end Go.Proofs.YtklmdppgonhflaaGreatDoor
