/- The program's decks of samples. -/
import Derived.Test.YtonkjfiffcfaoaaGreatUuR
set_option linter.all false
set_option maxHeartbeats 8000000
namespace Go.Proofs.YtonkjfiffcfaoaaGreat
open Go.Vs
variable [Vs.Envs]
attribute [local irreducible] Vs.Fn
theorem nK (l:List (List Int)) (hs:∀x,x∈l→x.length≤1048576) (hl:l.length≤1048576):Fz F.iV [.sl 1 (E cC l)] (.v (.bool (aX l))):=by
 refine fn0 Cd.i_ValidDeck_k fun X=>?_;simp -dsimp only[go_sem];refine aN.intro dM (fun i:{i:Nat // i≤l.length∧(l.take i).all (fun c=>gF c&&decide (c.length=(l.getD 0 []).length))=true}=>⟨[(0,.sl 1 (E cC l)),(5,.sl 1 (E cC l)),(6,.v (.int .i64 l.length)),(7,.v (.int .i64 i.1))],[]⟩) (fun i=>l.length-i.1) ⟨0,by simp⟩ ?_ ?_
 ·simp[Vs.LeL,Vs.look]
 ·rintro⟨i,hi,hall⟩;simp -dsimp only[go_sem];refine Br.mk (fun h1=>?_) fun h1=>?_
  ·have hlt:i<l.length:=by simpa using h1
   have h0:0<l.length:=by omega
   have hw:=aH hlt hl;have g0:l.getD 0 []=l[0]:=by simp[List.getD,h0]
   simp -dsimp only[go_sem,aT hlt,aT h0];refine⟨⟨by omega,by omega⟩,by first|omega|decide|simp[cC],?_⟩;simp -dsimp only[go_sem,cC,aT hlt];refine RgK.mk rfl ?_;simp -dsimp only[go_sem,cC,aT hlt];refine aA.flat (aHb l[i] (hs _ (List.getElem_mem hlt))) rfl ?_;simp -dsimp only[go_sem,cC,aT hlt];refine Br.mk (fun h2=>?_) fun h2=>?_
   ·simp -dsimp only[go_sem,h2];have e:(gF l[i]&&decide (l[i].length=(l.getD 0 []).length))=false:=by simp at h2;simp[h2]
    have hf:aX l=false:=by rw[aX,dX (p:=fun c=>gF c&&decide (c.length=(l.getD 0 []).length)) hlt e];rfl
    simp[hf]
   ·simp -dsimp only[go_sem,cC,h2,aT hlt,aT h0];refine aA.flat (sG l[i]) rfl ?_;simp -dsimp only[go_sem,cC,h2,aT hlt,aT h0];refine⟨⟨by omega,by omega⟩,?_⟩;refine aA.flat (sG l[0]) rfl ?_;simp -dsimp only[go_sem,cC,h2,aT hlt,aT h0];refine Br.mk (fun h3=>?_) fun h3=>?_
    ·simp -dsimp only[go_sem]
     have e:(gF l[i]&&decide (l[i].length=(l.getD 0 []).length))=false:=by
      rw[g0];have:l[i].length≠l[0].length:=by simp at h3;omega
      simp[this]
     have hf:aX l=false:=by rw[aX,dX (p:=fun c=>gF c&&decide (c.length=(l.getD 0 []).length)) hlt e];rfl
     simp[hf]
    ·simp -dsimp only[go_sem,hw]
     have e:(gF l[i]&&decide (l[i].length=(l.getD 0 []).length))=true:=by
      rw[g0];have:l[i].length=l[0].length:=by simp at h3;omega
      simp at h2;simp[this,h2]
     exact⟨⟨i+1,by omega,bB (p:=fun c=>gF c&&decide (c.length=(l.getD 0 []).length)) hlt hall e⟩,by simp[Vs.LeL,Vs.look],by simp only;omega⟩
  ·have hge:i=l.length:=by
    have:¬i<l.length:=by simpa using h1
    omega
   subst hge;simp -dsimp only[go_sem];have:l.all (fun c=>gF c&&decide (c.length=(l.getD 0 []).length))=true:=by simpa using hall
   rw[aX,this];simp only[Bool.true_and,Value.bool.injEq,AV.v.injEq];simp;omega
theorem aK9 (l:List (List Int)):Fz F.iP [.sl 1 (E cC l)] (.v (.int .i64 l.length)):=by
 refine fn0 Cd.i_size_i_Card__k fun X=>?_
 repeat' first|simp -dsimp only[go_sem]|apply Br.mk<;>intro h<;>try simp -dsimp only[h]|refine aC ?_|fail
 all_goals(simp_all)
theorem aFw (l:List (List Int)) (n:Int) (hs:∀x,x∈l→x.length≤1048576) (hl:l.length≤1048576):Fz F.mY [.sl 1 (E cC l),.v (.int .i64 n)] (.v (.int .i64 (uN l n))):=by
 refine fn0 Cd.i_sampleCode_k fun X=>?_
 repeat' first|simp -dsimp only[go_sem]|apply Br.mk<;>intro h<;>try simp -dsimp only[h]|refine aA.c (by first|exact nK l hs hl|exact aK9 l|exact inside _ _ _) ?_|refine aC ?_|fail
 all_goals(simp_all [uN,aCZ])
theorem aJt (l:List Int) (hl:l.length≤1048576):Fz F.kQ [.sl 1 (E cI l)] (.sl 1 (E cI l)):=by
 refine fn0 Cd.i_copyInts_k fun X=>?_;simp -dsimp only[go_sem];exact⟨by omega,rfl,⟨rfl,by omega,by omega⟩,_,_,rfl,rfl⟩
theorem aAk (c:List Int) (hc:c.length≤1048576):Fz F.mF [.agg (cC c)] (.agg (cC c)):=by
 refine fn0 Cd.i_newCard_k fun X=>?_
 repeat' first|simp -dsimp only[go_sem,cC]|apply Br.mk<;>intro h<;>try simp -dsimp only[h]|refine aA.c (by first|exact aJt c hc) ?_|refine aC ?_|fail
 all_goals(exact⟨_,_,rfl,rfl⟩)
theorem xY (l:List (List Int)) (hs:∀x,x∈l→x.length≤1048576) (hl:l.length≤1048576):Vs.Fn Tryz.prog F.gM [] [.sl 1 (E cC l)] (.loc (.b 0) 0 l.length) [some (.arr 1 (E cC l) false)]:=by
 refine fn1 Cd.i_newDeck_k [.t 3 0] [.arr 1 (E cC l) false] fun X=>?_;unfold Cd.gM;simp -dsimp only[go_sem];refine⟨by omega,rfl,?_⟩;refine aN.intro dM (fun i:{i:Nat // i≤l.length}=>⟨[(3,.loc (.t 3 0) 0 i.1),(7,.sl 1 (E cC l)),(8,.v (.int .i64 l.length)),(9,.v (.int .i64 i.1))],[(.t 3 0,.arr 1 (E cC (l.take i.1)) false)]⟩) (fun i=>l.length-i.1) ⟨0,by omega⟩ ?_ ?_
 ·simp[Vs.LeL,Vs.look,Vs.aB,Vs.E]
 ·rintro⟨i,hi⟩;have hti:(l.take i).length=i:=by simp;omega
  simp -dsimp only[go_sem];refine Br.mk (fun h1=>?_) fun h1=>?_
  ·have hlt:i<l.length:=by simpa using h1
   have hw:=aH hlt hl;simp -dsimp only[go_sem,aT hlt];refine⟨⟨by omega,by omega⟩,by simp[cC],?_⟩;simp -dsimp only[go_sem,cC];have hap:E cC (l.take i)++[[.sl 1 (E cI l[i])]]=E cC (l.take (i+1)):=by rw[bK hlt,aR];rfl
   refine aA.pure (aAk l[i] (hs _ (List.getElem_mem hlt))) ?_;simp -dsimp only[go_sem,cC,hti,aG,hap,hw,List.replicate_succ,List.replicate_zero,List.flatten_cons,List.flatten_nil];exact⟨by omega,⟨rfl,by omega,by omega⟩,rfl,⟨i+1,by omega⟩,by simp[Vs.LeL,Vs.look,Vs.aB],by simp only;omega⟩
  ·have hge:i=l.length:=by
    have:¬i<l.length:=by simpa using h1
    omega
   subst hge;simp -dsimp only[go_sem];exact⟨⟨[],[],rfl,by rw[List.take_length]⟩,by simp⟩
def fZ (l:List (List Int)) (p:List (List (List Int))):List (List (List Int)):=p.flatMap fun d=>l.map fun c=>d++[c]
def eO (l:List (List Int)):Nat→List (List (List Int))
 |0=>[[]]
 |i+1=>fZ l (eO l i)
def gK (l:List (List Int)):Nat→List (List (List Int))
 |0=>[[]]
 |i+1=>gK l i++eO l (i+1)
theorem uZ (l:List (List Int)) (p:List (List (List Int))):(fZ l p).length=p.length*l.length:=by
 induction p with
 |nil=>simp[fZ]
 | cons d r ih =>
  have:fZ l (d::r)=(l.map fun c=>d++[c])++fZ l r:=by simp[fZ]
  rw[this,List.length_append,ih,List.length_map,List.length_cons,Nat.succ_mul,Nat.add_comm]
theorem sF (l:List (List Int)):∀i,(eO l i).length=l.length ^ i
 |0=>rfl
 |i+1=>by rw[eO,uZ,sF l i,Nat.pow_succ]
def geo (m:Nat):Nat→Nat
 |0=>1
 |i+1=>geo m i+m ^ (i+1)
theorem iC (l:List (List Int)):∀i,(gK l i).length=geo l.length i
 |0=>rfl
 |i+1=>by rw[gK,List.length_append,iC l i,sF,geo]
theorem aDK (m i:Nat) (hm:m≤5) (hi:i≤4):m ^ i≤625:=by
 have h1:m ^ i≤5 ^ i:=Nat.pow_le_pow_left hm i;have h2:5 ^ i≤5 ^ 4:=Nat.pow_le_pow_right (by omega) hi;have h3:5 ^ 4=625:=rfl;omega
theorem zJ (m:Nat) (hm:m≤5):∀i,i≤3→geo m i≤1+i*625
 |0,_=>by simp[geo]
 | i+1,h=>by
  have:=zJ m hm i (by omega);have:=aDK m (i+1) hm (by omega);simp only[geo];omega
end Go.Proofs.YtonkjfiffcfaoaaGreat
