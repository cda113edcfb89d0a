/- How the arguments' types read. -/
import Derived.Test.YtkgeiaideklmoaaGreatZuR
import Derived.Test.YtkgeiaideklmoaaGreatZuA
import Derived.Test.YtkgeiaideklmoaaGreatVtF
set_option linter.all false
set_option maxHeartbeats 8000000
namespace Go.Proofs.YtkgeiaideklmoaaGreat
open Go.Vs
section
variable [Vs.Envs]
attribute [local irreducible] Vs.Fn chOK areCh chTo chAt l03
theorem vP {α:Type}{f:α→Int→Int}:∀{l:List α}{n:Int},(∀x,x∈l→∀n,0≤n→n≤1048576→0≤f x n→f x n≤n)→0≤n→n≤1048576→0≤yI f l n→∀x,x∈l→∃m,0≤m∧m≤1048576∧0≤f x m
 | [],n,_,_,_,_,x,hx=>by cases hx
 | y::r,n,hf,h0,hn,h,x,hx=>by
  simp only[yI] at h;split at h
  ·omega
  ·rename_i G;rcases List.mem_cons.1 hx with rfl|hx
   ·exact⟨n,h0,hn,by omega⟩
   ·have h2:=hf y (by simp) n h0 hn (by omega);exact vP (fun z F=>hf z (by simp[F])) (by omega) (by omega) h x hx
theorem aGm {α:Type}{f:α→Int→Int}{l:List α}{n:Int} (G:∀x,x∈l→∀n,0≤n→n≤1048576→0≤f x n→f x n≤n) (H:l.length<2 ^ 63) (I:0≤n∧n≤1048576) (h:¬szL f l n<0):∀x,x∈l→∃m,0≤m∧m≤1048576∧0≤f x m:=by
 unfold szL at h;split at h
 ·omega
 ·rename_i F;rw[aP (by omega) (by omega)] at h F;exact vP (n:=n-l.length) G (by omega) (by omega) (by omega)
end
section
variable [Vs.Envs]
attribute [local irreducible] Vs.Fn chOK areCh chTo chAt l03
def fG (x:Stp) (w:Int):Bool:=
 inB x.kind 1 7&&(inB x.a 0 5&&(inB x.b 0 5&&(inB x.to 0 5&&(d9 x.f0 x.f1 w&&((x.b==0||inB x.kind 2 4) &&
   (if x.kind==7 then x.to==0&&(xZ x.s0 x.s1 w&&aAD x.text) else(x.s0==0&&x.s1==0)&&(if x.kind==5 then areCh x.text&&((x.text.size:Int)==W (x.f1-x.f0)) else aAD x.text)))))))
theorem qZ (x:Stp) (w:Int) (G:x.text.size≤1048576):Fz F.lZ [.agg (cS x),.v (.int .i64 w)] (.v (.bool (inB w 1 20&&fG x w))):=by
 refine fn0 Cd.i_ValidStep_k fun X=>?_
 repeat' first|simp -dsimp only[go_sem,cS]|apply Br.mk<;>intro h<;>try simp -dsimp only[h]|refine aD.c (by first|exact inside _ _ _|exact aLE _|exact aH6 _|exact uY _ _ _|exact aCu _ _ _|exact sK _ G) ?_|refine aC ?_|fail
 all_goals(first|(simp_all [fG,aAD];done)|(refine aV ?_;grind [fG,aAD]))
end
section
variable [Vs.Envs]
attribute [local irreducible] Vs.Fn chOK areCh chTo chAt l03
theorem aDI (x:Stp) (w:Int) (G:x.text.size≤1048576):Fz F.pW [.ro (cS x),.v (.int .i64 w)] (.v (.bool (fG x w))):=by
 refine fn0 Cd.s_l15Step_k fun X=>?_
 repeat' first|simp -dsimp only[go_sem,cS]|apply Br.mk<;>intro h<;>try simp -dsimp only[h]|refine aD.c (by first|exact yG _ _ _|exact aKp _|exact aKs _|exact dX _ _ _|exact aGL _ _ _ G) ?_|refine aC ?_|fail
 all_goals(first|(simp_all [fG,xZ,aAD,aI0];done)|(refine aV ?_;grind [fG,xZ,aAD,aI0]))
end
section
variable [Vs.Envs]
set_option maxRecDepth 100000
abbrev S63:={s:ByteArray // s.size<2 ^ 63}
theorem oI:dE Tryz.prog 2 1 (fun n:I64=>[.v (.int .i64 n.1)]):=dE.int Tryz.underlying2 (by kernel_rfl)
theorem oS:dE Tryz.prog 9 1 (fun s:S63=>[.v (.string s.1)]):=dE.string Tryz.underlying9 (by kernel_rfl)
def aB9 (p:I64×I64):List AV:=[.v (.int .i64 p.1.1)]++([.v (.int .i64 p.2.1)])
theorem aIN:dE Tryz.prog 45 2 aB9:=by
 refine dE.struct (k:=1+(1)) (e:=fun p:I64×I64=>[.v (.int .i64 p.1.1)]++([.v (.int .i64 p.2.1)])) Tryz.underlying45 (by kernel_rfl) ?_;exact fQ.cons' rfl oI rfl (fQ.one' rfl oI rfl rfl rfl) rfl rfl
def aK9 (p:I64×I64×I64×I64×(I64×I64)×(I64×I64)×S63):List AV:=[.v (.int .i64 p.1.1)]++([.v (.int .i64 p.2.1.1)]++([.v (.int .i64 p.2.2.1.1)]++([.v (.int .i64 p.2.2.2.1.1)]++(aB9 p.2.2.2.2.1++(aB9 p.2.2.2.2.2.1++([.v (.string p.2.2.2.2.2.2.1)]))))))
theorem oStep:dE Tryz.prog 47 9 aK9:=by
 refine dE.struct (k:=1+(1+(1+(1+(2+(2+(1))))))) (e:=fun p:I64×I64×I64×I64×(I64×I64)×(I64×I64)×S63=>[.v (.int .i64 p.1.1)]++([.v (.int .i64 p.2.1.1)]++([.v (.int .i64 p.2.2.1.1)]++([.v (.int .i64 p.2.2.2.1.1)]++(aB9 p.2.2.2.2.1++(aB9 p.2.2.2.2.2.1++([.v (.string p.2.2.2.2.2.2.1)]))))))) Tryz.underlying47 (by kernel_rfl) ?_;exact fQ.cons' rfl oI rfl (fQ.cons' rfl oI rfl (fQ.cons' rfl oI rfl (fQ.cons' rfl oI rfl (fQ.cons' rfl aIN rfl (fQ.cons' rfl aIN rfl (fQ.one' rfl oS rfl rfl rfl) rfl rfl) rfl rfl) rfl rfl) rfl rfl) rfl rfl) rfl rfl
theorem oInts:dE Tryz.prog 68 1 (fun l:{l:List (I64) // l.length<2 ^ 63}=>[.sl 1 (l.1.map (fun n:I64=>[.v (.int .i64 n.1)]))]):=dE.slice Tryz.underlying68 (by kernel_rfl) (by decide) oI
def aJp (p:{l:List (I64) // l.length<2 ^ 63}):List AV:=[.sl 1 (p.1.map (fun n:I64=>[.v (.int .i64 n.1)]))]
theorem oCard:dE Tryz.prog 70 1 aJp:=by
 refine dE.struct (k:=1) (e:=fun p:{l:List (I64) // l.length<2 ^ 63}=>[.sl 1 (p.1.map (fun n:I64=>[.v (.int .i64 n.1)]))]) Tryz.underlying70 (by kernel_rfl) ?_;exact fQ.one' rfl oInts rfl rfl rfl
theorem oSteps:dE Tryz.prog 22 1 (fun l:{l:List (I64×I64×I64×I64×(I64×I64)×(I64×I64)×S63) // l.length<2 ^ 63}=>[.sl 9 (l.1.map aK9)]):=dE.slice Tryz.underlying22 (by kernel_rfl) (by decide) oStep
theorem oCards:dE Tryz.prog 23 1 (fun l:{l:List ({l:List (I64) // l.length<2 ^ 63}) // l.length<2 ^ 63}=>[.sl 1 (l.1.map aJp)]):=dE.slice Tryz.underlying23 (by kernel_rfl) (by decide) oCard
theorem E_map {α β:Type}{c:α→List AV}{g:β→α} (l:List β):E c (l.map g)=l.map fun x=>c (g x):=by simp[E]
end
end Go.Proofs.YtkgeiaideklmoaaGreat
