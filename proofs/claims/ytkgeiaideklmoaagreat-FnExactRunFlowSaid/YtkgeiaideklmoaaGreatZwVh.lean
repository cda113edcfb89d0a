/- MergeDecks: the reference. -/
import Derived.Test.YtkgeiaideklmoaaGreatZwVg
set_option linter.all false
set_option maxHeartbeats 8000000
namespace Go.Proofs.YtkgeiaideklmoaaGreat
open Go.Vs
variable [Vs.Envs]
attribute [local irreducible] Vs.Fn bK aO bL bM l03 chB rk cd3 chI stp aP stb mgF gN stF bA iW bJ
attribute [local go_sem] Int.reduceBEq Int.reduceBNe cD aH Af Ag Al Aq Ae Ai Ac Ak Ab Ah Am Au Ap Ao AX BH Vs.Name.t.injEq BF BG l8 sF lU Aw Be in
theorem aB0 (a b:List (List Int)) (fr to:Int) (ha:aZ a) (hb:aZ b):Fz F.nJ [.sl 1 (E cC a),.sl 1 (E cC b),.agg (cFd fr to)] (.tup [mgV fr to a b,.v (.int .i64 (mgC fr to a b))]):=by
 have hd:=wrap_add ha.1 hb.1;have J:=aG9 a b fr to ha hb;by_cases H:iW fr to [a,b]=0
 rotate_left
 .have e0:(iW fr to [a,b] != 0)=true:=by simp[H]
  have hz:mgC fr to a b=iW fr to [a,b]:=by simp[mgC,H]
  rw[show mgV fr to a b=.v (.slice none 0 0) by simp[mgV,hz,H],hz];rw[show twV fr to a b a=.v (.slice none 0 0) by simp[twV,H],show twV fr to a b b=.v (.slice none 0 0) by simp[twV,H]] at J;refine fn0 Cd.s_MergeDecks_k λX=>?_
  repeat' first|simp -dsimp only[go_sem,cC,cFd,e0]|apply Br.mk<;>intro h<;>try simp -dsimp only[h]|refine aB.c (by first|exact J) ?_|refine aC ?_|fail
  all_goals first|exact⟨_,_,rfl,rfl⟩
 obtain⟨⟨da,db⟩,⟨fa,fb⟩,ca,cb⟩:=zQ H;rw[show twV fr to a b a=.sl 1 (E cSt (bS fr to a)) by simp[twV,H],show twV fr to a b b=.sl 1 (E cSt (bS fr to b)) by simp[twV,H],H] at J;have oa:=dF da fa;have ob:=dF db fb;have LA:=zC a fr to oa ca ha.1;have LB:=zC b fr to ob cb hb.1;have I:∀c,c∈a++b->okF fr to c:=λc H=>(Bf.1 H).elim (oa c) (ob c);have sa:=aB9 fr to a;have sb:=aB9 fr to b
 have MG:gN fr to a=true->gN fr to b=true->a.length+b.length<=40->Fz F.oK [.sl 1 (E cC a),.sl 1 (E cC b),.sl 1 (E cSt (bS fr to a)),.sl 1 (E cSt (bS fr to b))] (.sl 1 (E cC (iP fr to (a++b)))):=λh1 h2 h=>by
  have M:=aKV a b fr to ha hb oa ob ca cb h;rw[aNN I h h1 h2] at M;exact M
 unfold mgV mgC aHt;rw[AP H];obtain⟨pA,O⟩:∃p,decide ((a.length:Int)>0)=p:=⟨_,rfl⟩;obtain⟨pB,U⟩:∃p,decide ((b.length:Int)>0)=p:=⟨_,rfl⟩;obtain⟨pW,eW⟩:∃p,(bJ a != bJ b)=p:=⟨_,rfl⟩;obtain⟨p5,L⟩:∃p,decide ((a.length:Int)+(b.length:Int)>40)=p:=⟨_,rfl⟩;have Y:pA=true->0<a.length:=λh=>by rw[h] at O;have:=BJ O;omega
 have Z:pB=true->0<b.length:=λh=>by rw[h] at U;have:=BJ U;omega
 have gA:pA=true->_:=λh=>aEn (Y h);have gB:pB=true->_:=λh=>aEn (Z h);have wA:pA=true->_:=λh=>(aAr (Y h)).symm;have wB:pB=true->_:=λh=>(aAr (Z h)).symm;have h5:p5=false->a.length+b.length<=40:=λh=>by rw[h] at L;have:=BQ L;omega
 generalize gN fr to a=p1 at *
 generalize gN fr to b=p2 at *
 have e6:((a.length:Int)+(b.length:Int)>40)=(p5=true):=by rw[←L];simp
 simp only[O,U,eW,e6];cases pA<;>cases pB<;>first|have Y:=Y rfl|skip
 all_goals first|have Z:=Z rfl|skip
 all_goals
  refine fn0 Cd.s_MergeDecks_k λX=>?_
  repeat' first|simp -dsimp only[go_sem,cC,cFd,hd,O,U,eW,L,sa,sb,gA,gB,wA,wB]|apply Br.mk<;>intro h<;>try simp -dsimp only[h]|refine aB.c (by first|exact J|exact LA|exact LB|exact MG (by simp_all) (by simp_all) (h5 (by simp_all))) ?_|refine aC ?_|fail
 all_goals first|exact⟨_,_,rfl,rfl⟩|(simp_all;done)
end Go.Proofs.YtkgeiaideklmoaaGreat
