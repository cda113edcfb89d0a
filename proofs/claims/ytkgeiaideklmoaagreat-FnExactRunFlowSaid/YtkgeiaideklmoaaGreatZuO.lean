/- How the arguments' types read. -/
import Derived.Test.YtkgeiaideklmoaaGreatZuR
import Derived.Test.YtkgeiaideklmoaaGreatZuA
import Derived.Test.YtkgeiaideklmoaaGreatVtF
set_option linter.all false
set_option maxHeartbeats 8000000
namespace Go.Proofs.YtkgeiaideklmoaaGreat
open Go.Vs
section
variable [Vs.Envs]
attribute [local irreducible] Vs.Fn bK aO bL bM l03
theorem xH {α:Type}{f:α->Int->Int}:∀{l:List α}{n:Int},(∀x,x∈l->∀n,0<=n->n<=1048576->0<=f x n->f x n<=n)->0<=n->n<=1048576->0<=wC f l n->∀x,x∈l->∃m,0<=m∧m<=1048576∧0<=f x m
 | [],n,_,_,_,_,x,hx=>by cases hx
 | y::r,n,hf,h0,hn,h,x,hx=>by
  simp only[wC] at h;split at h
  .omega
  .rename_i H;rcases Ap.1 hx with rfl|hx
   .exact⟨n,h0,hn,by omega⟩
   .have h2:=hf y (by simp) n h0 hn (by omega);exact xH (λz F=>hf z (by simp[F])) (by omega) (by omega) h x hx
theorem aLU {α:Type}{f:α->Int->Int}{l:List α}{n:Int} (H:∀x,x∈l->∀n,0<=n->n<=1048576->0<=f x n->f x n<=n) (I:l.length<2 ^ 63) (J:0<=n∧n<=1048576) (h:¬szL f l n<0):∀x,x∈l->∃m,0<=m∧m<=1048576∧0<=f x m:=by
 unfold szL at h;split at h
 .omega
 .rename_i F;rw[aR (by omega) (by omega)] at h F;exact xH (n:=n-l.length) H (by omega) (by omega) (by omega)
end
section
variable [Vs.Envs]
attribute [local irreducible] Vs.Fn bK aO bL bM l03
def lM (x:Stp) (w:Int):Bool:=
 inB x.kind 1 7&&(inB x.a 0 5&&(inB x.b 0 5&&(inB x.to 0 5&&(dZ x.f0 x.f1 w&&((x.b==0||inB x.kind 2 4) &&
   (if x.kind==7 then x.to==0&&(zT x.s0 x.s1 w&&aBp x.text) else(x.s0==0&&x.s1==0)&&(if x.kind==5 then aO x.text&&((x.text.size:Int)==W (x.f1-x.f0)) else aBp x.text)))))))
theorem yB (x:Stp) (w:Int) (H:x.text.size<=1048576):Fz F.qP [.agg (cS x),.v (.int .i64 w)] (.v (.bool (inB w 1 20&&lM x w))):=by
 refine fn0 Cd.i_ValidStep_k λX=>?_
 repeat' first|simp -dsimp only[go_sem,cS]|apply Br.mk<;>intro h<;>try simp -dsimp only[h]|refine aB.c (by first|exact inside _ _ _|exact aNV _|exact aJX _|exact wP _ _ _|exact aDE _ _ _|exact uM _ H) ?_|refine aC ?_|fail
 all_goals(first|(simp_all [lM,aBp];done)|(refine bN ?_;grind [lM,aBp]))
end
section
variable [Vs.Envs]
attribute [local irreducible] Vs.Fn bK aO bL bM l03
theorem aIk (x:Stp) (w:Int) (H:x.text.size<=1048576):Fz F.uS [.ro (cS x),.v (.int .i64 w)] (.v (.bool (lM x w))):=by
 refine fn0 Cd.s_l15Step_k λX=>?_
 repeat' first|simp -dsimp only[go_sem,cS]|apply Br.mk<;>intro h<;>try simp -dsimp only[h]|refine aB.c (by first|exact zX _ _ _|exact aMs _|exact aMv _|exact fA _ _ _|exact aIl _ _ _ H) ?_|refine aC ?_|fail
 all_goals(first|(simp_all [lM,zT,aBp,aKU];done)|(refine bN ?_;grind [lM,zT,aBp,aKU]))
end
section
variable [Vs.Envs]
set_option maxRecDepth 100000
abbrev S63:={s:ByteArray // s.size<2 ^ 63}
theorem oI:bX Tryz.prog 2 1 (λn:I64=>[.v (.int .i64 n.1)]):=bX.int Tryz.underlying2 (by kernel_rfl)
theorem oS:bX Tryz.prog 9 1 (λs:S63=>[.v (.string s.1)]):=bX.string Tryz.underlying9 (by kernel_rfl)
def aDe (p:I64×I64):List AV:=[.v (.int .i64 p.1.1)]++([.v (.int .i64 p.2.1)])
theorem aKG:bX Tryz.prog 45 2 aDe:=by
 refine bX.struct (k:=1+(1)) (e:=λp:I64×I64=>[.v (.int .i64 p.1.1)]++([.v (.int .i64 p.2.1)])) Tryz.underlying45 (by kernel_rfl) ?_;exact eH.cons' rfl oI rfl (eH.one' rfl oI rfl rfl rfl) rfl rfl
def aDd (p:S63×I64):List AV:=[.v (.string p.1.1)]++([.v (.int .i64 p.2.1)])
theorem aNK:bX Tryz.prog 140 2 aDd:=by
 refine bX.struct (k:=1+(1)) (e:=λp:S63×I64=>[.v (.string p.1.1)]++([.v (.int .i64 p.2.1)])) Tryz.underlying140 (by kernel_rfl) ?_;exact eH.cons' rfl oS rfl (eH.one' rfl oI rfl rfl rfl) rfl rfl
def aNe (p:I64×I64×I64×I64×(I64×I64)×(I64×I64)×S63):List AV:=[.v (.int .i64 p.1.1)]++([.v (.int .i64 p.2.1.1)]++([.v (.int .i64 p.2.2.1.1)]++([.v (.int .i64 p.2.2.2.1.1)]++(aDe p.2.2.2.2.1++(aDe p.2.2.2.2.2.1++([.v (.string p.2.2.2.2.2.2.1)]))))))
theorem oStep:bX Tryz.prog 47 9 aNe:=by
 refine bX.struct (k:=1+(1+(1+(1+(2+(2+(1))))))) (e:=λp:I64×I64×I64×I64×(I64×I64)×(I64×I64)×S63=>[.v (.int .i64 p.1.1)]++([.v (.int .i64 p.2.1.1)]++([.v (.int .i64 p.2.2.1.1)]++([.v (.int .i64 p.2.2.2.1.1)]++(aDe p.2.2.2.2.1++(aDe p.2.2.2.2.2.1++([.v (.string p.2.2.2.2.2.2.1)]))))))) Tryz.underlying47 (by kernel_rfl) ?_;exact eH.cons' rfl oI rfl (eH.cons' rfl oI rfl (eH.cons' rfl oI rfl (eH.cons' rfl oI rfl (eH.cons' rfl aKG rfl (eH.cons' rfl aKG rfl (eH.one' rfl oS rfl rfl rfl) rfl rfl) rfl rfl) rfl rfl) rfl rfl) rfl rfl) rfl rfl
theorem oInts:bX Tryz.prog 68 1 (λl:{l:List (I64) // l.length<2 ^ 63}=>[.sl 1 (l.1.map (λn:I64=>[.v (.int .i64 n.1)]))]):=bX.slice Tryz.underlying68 (by kernel_rfl) (by decide) oI
def aEf (p:{l:List (I64) // l.length<2 ^ 63}):List AV:=[.sl 1 (p.1.map (λn:I64=>[.v (.int .i64 n.1)]))]
theorem oCard:bX Tryz.prog 70 1 aEf:=by
 refine bX.struct (k:=1) (e:=λp:{l:List (I64) // l.length<2 ^ 63}=>[.sl 1 (p.1.map (λn:I64=>[.v (.int .i64 n.1)]))]) Tryz.underlying70 (by kernel_rfl) ?_;exact eH.one' rfl oInts rfl rfl rfl
theorem aMk:bX Tryz.prog 122 1 (λl:{l:List (S63×I64) // l.length<2 ^ 63}=>[.sl 2 (l.1.map aDd)]):=bX.slice Tryz.underlying122 (by kernel_rfl) (by decide) aNK
theorem oSteps:bX Tryz.prog 22 1 (λl:{l:List (I64×I64×I64×I64×(I64×I64)×(I64×I64)×S63) // l.length<2 ^ 63}=>[.sl 9 (l.1.map aNe)]):=bX.slice Tryz.underlying22 (by kernel_rfl) (by decide) oStep
theorem aNL:bX Tryz.prog 23 1 (λl:{l:List ({l:List (I64) // l.length<2 ^ 63}) // l.length<2 ^ 63}=>[.sl 1 (l.1.map aEf)]):=bX.slice Tryz.underlying23 (by kernel_rfl) (by decide) oCard
theorem aMl:bX Tryz.prog 40 1 (λl:{l:List ({l:List ({l:List (I64) // l.length<2 ^ 63}) // l.length<2 ^ 63}) // l.length<2 ^ 63}=>[.sl 1 (l.1.map (λn:{l:List ({l:List (I64) // l.length<2 ^ 63}) // l.length<2 ^ 63}=>[.sl 1 (n.1.map aEf)]))]):=bX.slice Tryz.underlying40 (by kernel_rfl) (by decide) aNL
theorem aKF:bX Tryz.prog 41 1 (λl:{l:List ({l:List (S63×I64) // l.length<2 ^ 63}) // l.length<2 ^ 63}=>[.sl 1 (l.1.map (λn:{l:List (S63×I64) // l.length<2 ^ 63}=>[.sl 2 (n.1.map aDd)]))]):=bX.slice Tryz.underlying41 (by kernel_rfl) (by decide) aMk
def aIt (p:{l:List ({l:List ({l:List (I64) // l.length<2 ^ 63}) // l.length<2 ^ 63}) // l.length<2 ^ 63}×({l:List ({l:List (S63×I64) // l.length<2 ^ 63}) // l.length<2 ^ 63})):List AV:=[.sl 1 (p.1.1.map (λn:{l:List ({l:List (I64) // l.length<2 ^ 63}) // l.length<2 ^ 63}=>[.sl 1 (n.1.map aEf)]))]++([.sl 1 (p.2.1.map (λn:{l:List (S63×I64) // l.length<2 ^ 63}=>[.sl 2 (n.1.map aDd)]))])
theorem oOffice:bX Tryz.prog 43 2 aIt:=by
 refine bX.struct (k:=1+(1)) (e:=λp:{l:List ({l:List ({l:List (I64) // l.length<2 ^ 63}) // l.length<2 ^ 63}) // l.length<2 ^ 63}×({l:List ({l:List (S63×I64) // l.length<2 ^ 63}) // l.length<2 ^ 63})=>[.sl 1 (p.1.1.map (λn:{l:List ({l:List (I64) // l.length<2 ^ 63}) // l.length<2 ^ 63}=>[.sl 1 (n.1.map aEf)]))]++([.sl 1 (p.2.1.map (λn:{l:List (S63×I64) // l.length<2 ^ 63}=>[.sl 2 (n.1.map aDd)]))])) Tryz.underlying43 (by kernel_rfl) ?_;exact eH.cons' rfl aMl rfl (eH.one' rfl aKF rfl rfl rfl) rfl rfl
theorem E_map {α β:Type}{c:α->List AV}{g:β->α} (l:List β):E c (l.map g)=l.map λx=>c (g x):=by simp[E]
end
end Go.Proofs.YtkgeiaideklmoaaGreat
