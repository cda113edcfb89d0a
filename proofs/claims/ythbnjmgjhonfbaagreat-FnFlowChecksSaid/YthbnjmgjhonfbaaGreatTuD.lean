/-
 The laws FnExactSameTotals and FnExactSameFlow return true for every input, and their arguments read behind the call as they read before. Conditions: none beyond the given statements.
-/
import Derived.Test.YthbnjmgjhonfbaaGreatTuB
import Derived.Test.YthbnjmgjhonfbaaGreatVtH
set_option linter.all false
set_option maxHeartbeats 8000000
namespace Go.Proofs.YthbnjmgjhonfbaaGreat
open Go.Vs
variable [Vs.Envs]
attribute [local irreducible] Vs.Fn
abbrev Tot:=ByteArray×Int
def cT (x:Tot):List AV:=[.v (.string x.1),.v (.int .i64 x.2)]
def qT (x y:Tot):Bool:=(x.1.toList==y.1.toList)&&(x.2==y.2)
theorem aGA (x y:Tot):eqC [2,0] (cT x) (cT y)=some (qT x y):=by simp[eqC,eqV,cT,qT]
theorem aHF (l m:List Tot) (hl:l.length≤1048576):Fz F.oO [.sl 2 (E cT l),.sl 2 (E cT m)] (.v (.bool (lX qT l m))):=
 aKb Tryz.mixed (k:=2) (ks:=[2,0]) Cd.s_l15Totals_k.o Cd.s_l15Totals_k.n Cd.s_l15Totals_k.r rfl (fun _=>rfl) aGA hl
theorem aIm (l m:List Tot) (hl:l.length≤1048576):Fz F.xL [.sl 2 (E cT l),.sl 2 (E cT m)] (.v (.bool (lX qT l m))):=
 aKe Tryz.mixed (k:=2) (ks:=[2,0]) Cd.eq_Total_k.o Cd.eq_Total_k.n Cd.eq_Total_k.r rfl (fun _=>rfl) aGA hl
theorem vT (l m:List Tot) (hl:l.length≤1048576):Fz F.kX [.sl 2 (E cT l),.sl 2 (E cT m)] (.v (.bool (lX qT l m))):=by
 refine fn0 Cd.i_SameTotals_k fun X=>?_
 repeat' first|simp -dsimp only[go_sem]|apply Br.mk<;>intro h<;>try simp -dsimp only[h]|refine aA.c (by first|exact aIm l m hl) ?_|refine aC ?_|fail
 all_goals(simp_all)
structure Stp where
 kind:Int
 a:Int
 b:Int
 to:Int
 f0:Int
 f1:Int
 s0:Int
 s1:Int
 text:ByteArray
def cS (x:Stp):List AV:=[.v (.int .i64 x.kind),.v (.int .i64 x.a),.v (.int .i64 x.b),.v (.int .i64 x.to),.v (.int .i64 x.f0),.v (.int .i64 x.f1),.v (.int .i64 x.s0),.v (.int .i64 x.s1),.v (.string x.text)]
end Go.Proofs.YthbnjmgjhonfbaaGreat
