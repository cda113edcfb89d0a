/- How the arguments' types read. -/
import Derived.Test.YtmiiohemehacjaaGreatDoorXuF
import Derived.Test.YtmiiohemehacjaaGreatDoorXuA
import Derived.Test.YtmiiohemehacjaaGreatDoorVtF
set_option linter.all false
set_option maxHeartbeats 8000000
namespace Go.Proofs.YtmiiohemehacjaaGreatDoor
open Go.Vs
section
variable [Vs.Envs]
attribute [local irreducible] Vs.Fn chOK areCh chTo chAt l03
theorem xC {α:Type}{f:α->Int->Int}:∀{l:List α}{n:Int},(∀x,x∈l->∀n,0<=n->n<=1048576->0<=f x n->f x n<=n)->0<=n->n<=1048576->0<=vX f l n->∀x,x∈l->∃m,0<=m∧m<=1048576∧0<=f x m
 | [],n,_,_,_,_,x,hx=>by cases hx
 | y::r,n,hf,h0,hn,h,x,hx=>by
  simp only[vX] at h;split at h
  .omega
  .rename_i H;rcases List.mem_cons.1 hx with rfl|hx
   .exact⟨n,h0,hn,by omega⟩
   .have h2:=hf y (by simp) n h0 hn (by omega);exact xC (λz F=>hf z (by simp[F])) (by omega) (by omega) h x hx
theorem aLs {α:Type}{f:α->Int->Int}{l:List α}{n:Int} (H:∀x,x∈l->∀n,0<=n->n<=1048576->0<=f x n->f x n<=n) (I:l.length<2 ^ 63) (J:0<=n∧n<=1048576) (h:¬szL f l n<0):∀x,x∈l->∃m,0<=m∧m<=1048576∧0<=f x m:=by
 unfold szL at h;split at h
 .omega
 .rename_i F;rw[aO (by omega) (by omega)] at h F;exact xC (n:=n-l.length) H (by omega) (by omega) (by omega)
end
section
variable [Vs.Envs]
attribute [local irreducible] Vs.Fn chOK areCh chTo chAt l03
def mE (x:Stp) (w:Int):Bool:=
 inB x.kind 1 7&&(inB x.a 0 5&&(inB x.b 0 5&&(inB x.to 0 5&&(dR x.f0 x.f1 w&&((x.b==0||inB x.kind 2 4) &&
   (if x.kind==7 then x.to==0&&(nO x.s0 x.s1 w&&aBa x.text) else(x.s0==0&&x.s1==0)&&(if x.kind==5 then areCh x.text&&((x.text.size:Int)==W (x.f1-x.f0)) else aBa x.text)))))))
theorem aCT (x:Stp) (w:Int) (H:x.text.size<=1048576):Fz F.pO [.agg (cS x),.v (.int .i64 w)] (.v (.bool (inB w 1 20&&mE x w))):=by
 refine fn0 Cd.i_ValidStep_k λX=>?_
 repeat' first|simp -dsimp only[go_sem,cS]|apply Br.mk<;>intro h<;>try simp -dsimp only[h]|refine aD.c (by first|exact inside _ _ _|exact aNs _|exact aJD _|exact wI _ _ _|exact zJ _ _ _|exact uJ _ H) ?_|refine aC ?_|fail
 all_goals(first|(simp_all [mE,aBa];done)|(refine aU ?_;grind [mE,aBa]))
end
section
variable [Vs.Envs]
attribute [local irreducible] Vs.Fn chOK areCh chTo chAt l03
theorem aH5 (x:Stp) (w:Int) (H:x.text.size<=1048576):Fz F.uS [.ro (cS x),.v (.int .i64 w)] (.v (.bool (mE x w))):=by
 refine fn0 Cd.s_l15Step_k λX=>?_
 repeat' first|simp -dsimp only[go_sem,cS]|apply Br.mk<;>intro h<;>try simp -dsimp only[h]|refine aD.c (by first|exact zI _ _ _|exact aL2 _|exact aL5 _|exact dH _ _ _|exact aH6 _ _ _ H) ?_|refine aC ?_|fail
 all_goals(first|(simp_all [mE,nO,aBa,aKt];done)|(refine aU ?_;grind [mE,nO,aBa,aKt]))
end
section
variable [Vs.Envs]
set_option maxRecDepth 100000
abbrev S63:={s:ByteArray // s.size<2 ^ 63}
theorem oI:bM Tryz.prog 2 1 (λn:I64=>[.v (.int .i64 n.1)]):=bM.int Tryz.underlying2 (by kernel_rfl)
theorem oS:bM Tryz.prog 9 1 (λs:S63=>[.v (.string s.1)]):=bM.string Tryz.underlying9 (by kernel_rfl)
def aC1 (p:I64×I64):List AV:=[.v (.int .i64 p.1.1)]++([.v (.int .i64 p.2.1)])
theorem oField:bM Tryz.prog 28 2 aC1:=by
 refine bM.struct (k:=1+(1)) (e:=λp:I64×I64=>[.v (.int .i64 p.1.1)]++([.v (.int .i64 p.2.1)])) Tryz.underlying28 (by kernel_rfl) ?_;exact dL.cons' rfl oI rfl (dL.one' rfl oI rfl rfl rfl) rfl rfl
def aC0 (p:S63×I64):List AV:=[.v (.string p.1.1)]++([.v (.int .i64 p.2.1)])
theorem aNe:bM Tryz.prog 172 2 aC0:=by
 refine bM.struct (k:=1+(1)) (e:=λp:S63×I64=>[.v (.string p.1.1)]++([.v (.int .i64 p.2.1)])) Tryz.underlying172 (by kernel_rfl) ?_;exact dL.cons' rfl oS rfl (dL.one' rfl oI rfl rfl rfl) rfl rfl
def aMM (p:I64×I64×I64×I64×(I64×I64)×(I64×I64)×S63):List AV:=[.v (.int .i64 p.1.1)]++([.v (.int .i64 p.2.1.1)]++([.v (.int .i64 p.2.2.1.1)]++([.v (.int .i64 p.2.2.2.1.1)]++(aC1 p.2.2.2.2.1++(aC1 p.2.2.2.2.2.1++([.v (.string p.2.2.2.2.2.2.1)]))))))
theorem oStep:bM Tryz.prog 69 9 aMM:=by
 refine bM.struct (k:=1+(1+(1+(1+(2+(2+(1))))))) (e:=λp:I64×I64×I64×I64×(I64×I64)×(I64×I64)×S63=>[.v (.int .i64 p.1.1)]++([.v (.int .i64 p.2.1.1)]++([.v (.int .i64 p.2.2.1.1)]++([.v (.int .i64 p.2.2.2.1.1)]++(aC1 p.2.2.2.2.1++(aC1 p.2.2.2.2.2.1++([.v (.string p.2.2.2.2.2.2.1)]))))))) Tryz.underlying69 (by kernel_rfl) ?_;exact dL.cons' rfl oI rfl (dL.cons' rfl oI rfl (dL.cons' rfl oI rfl (dL.cons' rfl oI rfl (dL.cons' rfl oField rfl (dL.cons' rfl oField rfl (dL.one' rfl oS rfl rfl rfl) rfl rfl) rfl rfl) rfl rfl) rfl rfl) rfl rfl) rfl rfl
theorem oInts:bM Tryz.prog 139 1 (λl:{l:List (I64) // l.length<2 ^ 63}=>[.sl 1 (l.1.map (λn:I64=>[.v (.int .i64 n.1)]))]):=bM.slice Tryz.underlying139 (by kernel_rfl) (by decide) oI
def aD4 (p:{l:List (I64) // l.length<2 ^ 63}):List AV:=[.sl 1 (p.1.map (λn:I64=>[.v (.int .i64 n.1)]))]
theorem oCard:bM Tryz.prog 169 1 aD4:=by
 refine bM.struct (k:=1) (e:=λp:{l:List (I64) // l.length<2 ^ 63}=>[.sl 1 (p.1.map (λn:I64=>[.v (.int .i64 n.1)]))]) Tryz.underlying169 (by kernel_rfl) ?_;exact dL.one' rfl oInts rfl rfl rfl
theorem aLR:bM Tryz.prog 113 1 (λl:{l:List (S63×I64) // l.length<2 ^ 63}=>[.sl 2 (l.1.map aC0)]):=bM.slice Tryz.underlying113 (by kernel_rfl) (by decide) aNe
theorem oSteps:bM Tryz.prog 26 1 (λl:{l:List (I64×I64×I64×I64×(I64×I64)×(I64×I64)×S63) // l.length<2 ^ 63}=>[.sl 9 (l.1.map aMM)]):=bM.slice Tryz.underlying26 (by kernel_rfl) (by decide) oStep
theorem aNf:bM Tryz.prog 111 1 (λl:{l:List ({l:List (I64) // l.length<2 ^ 63}) // l.length<2 ^ 63}=>[.sl 1 (l.1.map aD4)]):=bM.slice Tryz.underlying111 (by kernel_rfl) (by decide) oCard
theorem aLS:bM Tryz.prog 22 1 (λl:{l:List ({l:List ({l:List (I64) // l.length<2 ^ 63}) // l.length<2 ^ 63}) // l.length<2 ^ 63}=>[.sl 1 (l.1.map (λn:{l:List ({l:List (I64) // l.length<2 ^ 63}) // l.length<2 ^ 63}=>[.sl 1 (n.1.map aD4)]))]):=bM.slice Tryz.underlying22 (by kernel_rfl) (by decide) aNf
theorem aKf:bM Tryz.prog 23 1 (λl:{l:List ({l:List (S63×I64) // l.length<2 ^ 63}) // l.length<2 ^ 63}=>[.sl 1 (l.1.map (λn:{l:List (S63×I64) // l.length<2 ^ 63}=>[.sl 2 (n.1.map aC0)]))]):=bM.slice Tryz.underlying23 (by kernel_rfl) (by decide) aLR
def aIe (p:{l:List ({l:List ({l:List (I64) // l.length<2 ^ 63}) // l.length<2 ^ 63}) // l.length<2 ^ 63}×({l:List ({l:List (S63×I64) // l.length<2 ^ 63}) // l.length<2 ^ 63})):List AV:=[.sl 1 (p.1.1.map (λn:{l:List ({l:List (I64) // l.length<2 ^ 63}) // l.length<2 ^ 63}=>[.sl 1 (n.1.map aD4)]))]++([.sl 1 (p.2.1.map (λn:{l:List (S63×I64) // l.length<2 ^ 63}=>[.sl 2 (n.1.map aC0)]))])
theorem oOffice:bM Tryz.prog 25 2 aIe:=by
 refine bM.struct (k:=1+(1)) (e:=λp:{l:List ({l:List ({l:List (I64) // l.length<2 ^ 63}) // l.length<2 ^ 63}) // l.length<2 ^ 63}×({l:List ({l:List (S63×I64) // l.length<2 ^ 63}) // l.length<2 ^ 63})=>[.sl 1 (p.1.1.map (λn:{l:List ({l:List (I64) // l.length<2 ^ 63}) // l.length<2 ^ 63}=>[.sl 1 (n.1.map aD4)]))]++([.sl 1 (p.2.1.map (λn:{l:List (S63×I64) // l.length<2 ^ 63}=>[.sl 2 (n.1.map aC0)]))])) Tryz.underlying25 (by kernel_rfl) ?_;exact dL.cons' rfl aLS rfl (dL.one' rfl aKf rfl rfl rfl) rfl rfl
theorem E_map {α β:Type}{c:α->List AV}{g:β->α} (l:List β):E c (l.map g)=l.map λx=>c (g x):=by simp[E]
end
end Go.Proofs.YtmiiohemehacjaaGreatDoor
