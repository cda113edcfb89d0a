/- How the arguments' types read. -/
import Derived.Test.YtkgeiaideklmoaaGreatZuR
import Derived.Test.YtkgeiaideklmoaaGreatZuA
import Derived.Test.YtkgeiaideklmoaaGreatVtF
set_option linter.all false
set_option maxHeartbeats 8000000
namespace Go.Proofs.YtkgeiaideklmoaaGreat
open Go.Vs
section
variable [Vs.Envs]
attribute [local irreducible] Vs.Fn bL aP bM bP l03
theorem aAh {α:Type}{f:α->Int->Int}:∀{l:List α}{n:Int},(∀x,x∈l->∀n,0<=n->n<=1048576->0<=f x n->f x n<=n)->0<=n->n<=1048576->0<=vM f l n->∀x,x∈l->∃m,0<=m∧m<=1048576∧0<=f x m
 | [],n,_,_,_,_,x,hx=>by cases hx
 | y::r,n,hf,h0,hn,h,x,hx=>by
  simp only[vM] at h;split at h
  .omega
  .rename_i H;rcases Am.1 hx with rfl|hx
   .exact⟨n,h0,hn,by omega⟩
   .have h2:=hf y (by simp) n h0 hn (by omega);exact aAh (λz F=>hf z (by simp[F])) (by omega) (by omega) h x hx
end
section
variable [Vs.Envs]
attribute [local irreducible] Vs.Fn bL aP bM bP l03
def mY (x:Stp) (w:Int):Bool:=
 inB x.kind 1 7&&(inB x.a 0 5&&(inB x.b 0 5&&(inB x.to 0 5&&(dX x.f0 x.f1 w&&((x.b==0||inB x.kind 2 4) &&
   (if x.kind==7 then x.to==0&&(zA x.s0 x.s1 w&&aA8 x.text) else(x.s0==0&&x.s1==0)&&(if x.kind==5 then aP x.text&&((x.text.size:Int)==W (x.f1-x.f0)) else aA8 x.text)))))))
theorem xM (x:Stp) (w:Int) (H:x.text.size<=1048576):Fz F.qK [.agg (cS x),.v (.int .i64 w)] (.v (.bool (inB w 1 20&&mY x w))):=by
 refine fn0 Cd.i_ValidStep_k λX=>?_
 repeat' first|simp -dsimp only[go_sem,cS]|apply Br.mk<;>intro h<;>try simp -dsimp only[h]|refine aB.c (by first|exact inside _ _ _|exact aNa _|exact aJk _|exact vY _ _ _|exact aDi _ _ _|exact uD _ H) ?_|refine aC ?_|fail
 all_goals(first|(simp_all [mY,aA8];done)|(refine bK ?_;grind [mY,aA8]))
end
section
variable [Vs.Envs]
attribute [local irreducible] Vs.Fn bL aP bM bP l03
theorem aLS (x:Stp) (w:Int) (H:x.text.size<=1048576):Fz F.uK [.ro (cS x),.v (.int .i64 w)] (.v (.bool (mY x w))):=by
 refine fn0 Cd.s_l15Step_k λX=>?_
 repeat' first|simp -dsimp only[go_sem,cS]|apply Br.mk<;>intro h<;>try simp -dsimp only[h]|refine aB.c (by first|exact zG _ _ _|exact aLR _|exact aLT _|exact eZ _ _ _|exact aHM _ _ _ H) ?_|refine aC ?_|fail
 all_goals(first|(simp_all [mY,zA,aA8,aKi];done)|(refine bK ?_;grind [mY,zA,aA8,aKi]))
end
section
variable [Vs.Envs]
set_option maxRecDepth 100000
abbrev S63:={s:ByteArray // s.size<2 ^ 63}
theorem oI:bY Tryz.prog 2 1 (λn:I64=>[.v (.int .i64 n.1)]):=bY.int Tryz.underlying2 (by kernel_rfl)
theorem oS:bY Tryz.prog 9 1 (λs:S63=>[.v (.string s.1)]):=bY.string Tryz.underlying9 (by kernel_rfl)
def aCR (p:I64×I64):List AV:=[.v (.int .i64 p.1.1)]++([.v (.int .i64 p.2.1)])
theorem aJ3:bY Tryz.prog 45 2 aCR:=by
 refine bY.struct (k:=1+(1)) (e:=λp:I64×I64=>[.v (.int .i64 p.1.1)]++([.v (.int .i64 p.2.1)])) Tryz.underlying45 (by kernel_rfl) ?_;exact eF.cons' rfl oI rfl (eF.one' rfl oI rfl rfl rfl) rfl rfl
def aCQ (p:S63×I64):List AV:=[.v (.string p.1.1)]++([.v (.int .i64 p.2.1)])
theorem aM0:bY Tryz.prog 140 2 aCQ:=by
 refine bY.struct (k:=1+(1)) (e:=λp:S63×I64=>[.v (.string p.1.1)]++([.v (.int .i64 p.2.1)])) Tryz.underlying140 (by kernel_rfl) ?_;exact eF.cons' rfl oS rfl (eF.one' rfl oI rfl rfl rfl) rfl rfl
def eStep (p:I64×I64×I64×I64×(I64×I64)×(I64×I64)×S63):List AV:=[.v (.int .i64 p.1.1)]++([.v (.int .i64 p.2.1.1)]++([.v (.int .i64 p.2.2.1.1)]++([.v (.int .i64 p.2.2.2.1.1)]++(aCR p.2.2.2.2.1++(aCR p.2.2.2.2.2.1++([.v (.string p.2.2.2.2.2.2.1)]))))))
theorem oStep:bY Tryz.prog 47 9 eStep:=by
 refine bY.struct (k:=1+(1+(1+(1+(2+(2+(1))))))) (e:=λp:I64×I64×I64×I64×(I64×I64)×(I64×I64)×S63=>[.v (.int .i64 p.1.1)]++([.v (.int .i64 p.2.1.1)]++([.v (.int .i64 p.2.2.1.1)]++([.v (.int .i64 p.2.2.2.1.1)]++(aCR p.2.2.2.2.1++(aCR p.2.2.2.2.2.1++([.v (.string p.2.2.2.2.2.2.1)]))))))) Tryz.underlying47 (by kernel_rfl) ?_;exact eF.cons' rfl oI rfl (eF.cons' rfl oI rfl (eF.cons' rfl oI rfl (eF.cons' rfl oI rfl (eF.cons' rfl aJ3 rfl (eF.cons' rfl aJ3 rfl (eF.one' rfl oS rfl rfl rfl) rfl rfl) rfl rfl) rfl rfl) rfl rfl) rfl rfl) rfl rfl
theorem oInts:bY Tryz.prog 68 1 (λl:{l:List (I64) // l.length<2 ^ 63}=>[.sl 1 (l.1.map (λn:I64=>[.v (.int .i64 n.1)]))]):=bY.slice Tryz.underlying68 (by kernel_rfl) (by decide) oI
def aDP (p:{l:List (I64) // l.length<2 ^ 63}):List AV:=[.sl 1 (p.1.map (λn:I64=>[.v (.int .i64 n.1)]))]
theorem oCard:bY Tryz.prog 70 1 aDP:=by
 refine bY.struct (k:=1) (e:=λp:{l:List (I64) // l.length<2 ^ 63}=>[.sl 1 (p.1.map (λn:I64=>[.v (.int .i64 n.1)]))]) Tryz.underlying70 (by kernel_rfl) ?_;exact eF.one' rfl oInts rfl rfl rfl
theorem aLJ:bY Tryz.prog 122 1 (λl:{l:List (S63×I64) // l.length<2 ^ 63}=>[.sl 2 (l.1.map aCQ)]):=bY.slice Tryz.underlying122 (by kernel_rfl) (by decide) aM0
theorem aM1:bY Tryz.prog 23 1 (λl:{l:List ({l:List (I64) // l.length<2 ^ 63}) // l.length<2 ^ 63}=>[.sl 1 (l.1.map aDP)]):=bY.slice Tryz.underlying23 (by kernel_rfl) (by decide) oCard
theorem aLK:bY Tryz.prog 40 1 (λl:{l:List ({l:List ({l:List (I64) // l.length<2 ^ 63}) // l.length<2 ^ 63}) // l.length<2 ^ 63}=>[.sl 1 (l.1.map (λn:{l:List ({l:List (I64) // l.length<2 ^ 63}) // l.length<2 ^ 63}=>[.sl 1 (n.1.map aDP)]))]):=bY.slice Tryz.underlying40 (by kernel_rfl) (by decide) aM1
theorem aJ2:bY Tryz.prog 41 1 (λl:{l:List ({l:List (S63×I64) // l.length<2 ^ 63}) // l.length<2 ^ 63}=>[.sl 1 (l.1.map (λn:{l:List (S63×I64) // l.length<2 ^ 63}=>[.sl 2 (n.1.map aCQ)]))]):=bY.slice Tryz.underlying41 (by kernel_rfl) (by decide) aLJ
def aHU (p:{l:List ({l:List ({l:List (I64) // l.length<2 ^ 63}) // l.length<2 ^ 63}) // l.length<2 ^ 63}×({l:List ({l:List (S63×I64) // l.length<2 ^ 63}) // l.length<2 ^ 63})):List AV:=[.sl 1 (p.1.1.map (λn:{l:List ({l:List (I64) // l.length<2 ^ 63}) // l.length<2 ^ 63}=>[.sl 1 (n.1.map aDP)]))]++([.sl 1 (p.2.1.map (λn:{l:List (S63×I64) // l.length<2 ^ 63}=>[.sl 2 (n.1.map aCQ)]))])
theorem oOffice:bY Tryz.prog 43 2 aHU:=by
 refine bY.struct (k:=1+(1)) (e:=λp:{l:List ({l:List ({l:List (I64) // l.length<2 ^ 63}) // l.length<2 ^ 63}) // l.length<2 ^ 63}×({l:List ({l:List (S63×I64) // l.length<2 ^ 63}) // l.length<2 ^ 63})=>[.sl 1 (p.1.1.map (λn:{l:List ({l:List (I64) // l.length<2 ^ 63}) // l.length<2 ^ 63}=>[.sl 1 (n.1.map aDP)]))]++([.sl 1 (p.2.1.map (λn:{l:List (S63×I64) // l.length<2 ^ 63}=>[.sl 2 (n.1.map aCQ)]))])) Tryz.underlying43 (by kernel_rfl) ?_;exact eF.cons' rfl aLK rfl (eF.one' rfl aJ2 rfl rfl rfl) rfl rfl
theorem aK6 {α β:Type}{c:α->List AV}{g:β->α} (l:List β):E c (l.map g)=l.map λx=>c (g x):=by simp[E]
end
end Go.Proofs.YtkgeiaideklmoaaGreat
