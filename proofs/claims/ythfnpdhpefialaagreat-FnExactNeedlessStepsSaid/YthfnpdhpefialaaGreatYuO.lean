/- How the arguments' types read. -/
import Derived.Test.YthfnpdhpefialaaGreatYuR
import Derived.Test.YthfnpdhpefialaaGreatYuA
import Derived.Test.YthfnpdhpefialaaGreatVtF
set_option linter.all false
set_option maxHeartbeats 8000000
namespace Go.Proofs.YthfnpdhpefialaaGreat
open Go.Vs
section
variable [Vs.Envs]
attribute [local irreducible] Vs.Fn chOK areCh chTo chAt l03
theorem szGo_mem {α:Type}{f:α→Int→Int}:∀{l:List α}{n:Int},(∀x,x∈l→∀n,0≤n→n≤1048576→0≤f x n→f x n≤n)→0≤n→n≤1048576→0≤szGo f l n→∀x,x∈l→∃m,0≤m∧m≤1048576∧0≤f x m
 | [],n,_,_,_,_,x,hx=>by cases hx
 | y::r,n,hf,h0,hn,h,x,hx=>by
  simp only[szGo] at h
  split at h
  ·omega
  ·rename_i h1
   rcases List.mem_cons.1 hx with rfl|hx
   ·exact⟨n,h0,hn,by omega⟩
   ·have h2:=hf y (by simp) n h0 hn (by omega)
    exact szGo_mem (fun z hz=>hf z (by simp[hz])) (by omega) (by omega) h x hx
theorem szL_mem {α:Type}{f:α→Int→Int}{l:List α}{n:Int} (hf:∀x,x∈l→∀n,0≤n→n≤1048576→0≤f x n→f x n≤n) (hl:l.length<2 ^ 63) (hn:0≤n∧n≤1048576) (h:¬szL f l n<0):∀x,x∈l→∃m,0≤m∧m≤1048576∧0≤f x m:=by
 unfold szL at h
 split at h
 ·omega
 ·rename_i h1
  rw[wrap_in (by omega) (by omega)] at h h1
  exact szGo_mem (n:=n-l.length) hf (by omega) (by omega) (by omega)
end
section
variable [Vs.Envs]
attribute [local irreducible] Vs.Fn chOK areCh chTo chAt l03
def stpB (x:Stp) (w:Int):Bool:=
 inB x.kind 1 7&&(inB x.a 0 5&&(inB x.b 0 5&&(inB x.to 0 5&&(fldB x.f0 x.f1 w&&((x.b==0||inB x.kind 2 4) &&
   (if x.kind==7 then x.to==0&&(numB x.s0 x.s1 w&&noText x.text) else(x.s0==0&&x.s1==0)&&(if x.kind==5 then areCh x.text&&((x.text.size:Int)==W (x.f1-x.f0)) else noText x.text)))))))
theorem impl_ValidStep (x:Stp) (w:Int) (hs:x.text.size≤1048576):Fz F.i_ValidStep [.agg (cS x),.v (.int .i64 w)] (.v (.bool (inB w 1 20&&stpB x w))):=by
 refine fn0 Cd.i_ValidStep_k fun X=>?_
 repeat' first|simp -dsimp only[go_sem,cS]|apply Br.mk<;>intro h<;>try simp -dsimp only[h]|refine CallK.c (by first|exact inside _ _ _|exact isTray _|exact takesTwo _|exact isField _ _ _|exact isNumberField _ _ _|exact areCharacters _ hs) ?_|refine aC ?_|fail
 all_goals(first|(simp_all [stpB,noText];done)|(refine ret_eq ?_;grind [stpB,noText]))
end
section
variable [Vs.Envs]
attribute [local irreducible] Vs.Fn chOK areCh chTo chAt l03
theorem l15Step (x:Stp) (w:Int) (hs:x.text.size≤1048576):Fz F.s_l15Step [.ro (cS x),.v (.int .i64 w)] (.v (.bool (stpB x w))):=by
 refine fn0 Cd.s_l15Step_k fun X=>?_
 repeat' first|simp -dsimp only[go_sem,cS]|apply Br.mk<;>intro h<;>try simp -dsimp only[h]|refine CallK.c (by first|exact l00In _ _ _|exact l15Tray _|exact l15Both _|exact l02Field _ _ _|exact l09Text _ _ _ hs) ?_|refine aC ?_|fail
 all_goals(first|(simp_all [stpB,numB,noText,l09_eq];done)|(refine ret_eq ?_;grind [stpB,numB,noText,l09_eq]))
end
section
variable [Vs.Envs]
set_option maxRecDepth 100000
abbrev S63:={s:ByteArray // s.size<2 ^ 63}
theorem oI:Opens Tryz.prog 2 1 (fun n:I64=>[.v (.int .i64 n.1)]):=Opens.int Tryz.underlying2 (by kernel_rfl)
theorem oS:Opens Tryz.prog 9 1 (fun s:S63=>[.v (.string s.1)]):=Opens.string Tryz.underlying9 (by kernel_rfl)
def eField (p:I64×I64):List AV:=[.v (.int .i64 p.1.1)]++([.v (.int .i64 p.2.1)])
theorem oField:Opens Tryz.prog 42 2 eField:=by
 refine Opens.struct (k:=1+(1)) (e:=fun p:I64×I64=>[.v (.int .i64 p.1.1)]++([.v (.int .i64 p.2.1)])) Tryz.underlying42 (by kernel_rfl) ?_
 exact OpensF.cons' rfl oI rfl (OpensF.one' rfl oI rfl rfl rfl) rfl rfl
def eStep (p:I64×I64×I64×I64×(I64×I64)×(I64×I64)×S63):List AV:=[.v (.int .i64 p.1.1)]++([.v (.int .i64 p.2.1.1)]++([.v (.int .i64 p.2.2.1.1)]++([.v (.int .i64 p.2.2.2.1.1)]++(eField p.2.2.2.2.1++(eField p.2.2.2.2.2.1++([.v (.string p.2.2.2.2.2.2.1)]))))))
theorem oStep:Opens Tryz.prog 44 9 eStep:=by
 refine Opens.struct (k:=1+(1+(1+(1+(2+(2+(1))))))) (e:=fun p:I64×I64×I64×I64×(I64×I64)×(I64×I64)×S63=>[.v (.int .i64 p.1.1)]++([.v (.int .i64 p.2.1.1)]++([.v (.int .i64 p.2.2.1.1)]++([.v (.int .i64 p.2.2.2.1.1)]++(eField p.2.2.2.2.1++(eField p.2.2.2.2.2.1++([.v (.string p.2.2.2.2.2.2.1)]))))))) Tryz.underlying44 (by kernel_rfl) ?_
 exact OpensF.cons' rfl oI rfl (OpensF.cons' rfl oI rfl (OpensF.cons' rfl oI rfl (OpensF.cons' rfl oI rfl (OpensF.cons' rfl oField rfl (OpensF.cons' rfl oField rfl (OpensF.one' rfl oS rfl rfl rfl) rfl rfl) rfl rfl) rfl rfl) rfl rfl) rfl rfl) rfl rfl
theorem oInts:Opens Tryz.prog 26 1 (fun l:{l:List (I64) // l.length<2 ^ 63}=>[.sl 1 (l.1.map (fun n:I64=>[.v (.int .i64 n.1)]))]):=Opens.slice Tryz.underlying26 (by kernel_rfl) (by decide) oI
def eCard (p:{l:List (I64) // l.length<2 ^ 63}):List AV:=[.sl 1 (p.1.map (fun n:I64=>[.v (.int .i64 n.1)]))]
theorem oCard:Opens Tryz.prog 47 1 eCard:=by
 refine Opens.struct (k:=1) (e:=fun p:{l:List (I64) // l.length<2 ^ 63}=>[.sl 1 (p.1.map (fun n:I64=>[.v (.int .i64 n.1)]))]) Tryz.underlying47 (by kernel_rfl) ?_
 exact OpensF.one' rfl oInts rfl rfl rfl
theorem oSteps:Opens Tryz.prog 22 1 (fun l:{l:List (I64×I64×I64×I64×(I64×I64)×(I64×I64)×S63) // l.length<2 ^ 63}=>[.sl 9 (l.1.map eStep)]):=Opens.slice Tryz.underlying22 (by kernel_rfl) (by decide) oStep
theorem oCards:Opens Tryz.prog 23 1 (fun l:{l:List ({l:List (I64) // l.length<2 ^ 63}) // l.length<2 ^ 63}=>[.sl 1 (l.1.map eCard)]):=Opens.slice Tryz.underlying23 (by kernel_rfl) (by decide) oCard
theorem E_map {α β:Type}{c:α→List AV}{g:β→α} (l:List β):E c (l.map g)=l.map fun x=>c (g x):=by simp[E]
end
end Go.Proofs.YthfnpdhpefialaaGreat
