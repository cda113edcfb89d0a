/- The program's decks of samples. -/
import Derived.Test.YthbnjmgjhonfbaaGreatTuR
set_option linter.all false
set_option maxHeartbeats 8000000
namespace Go.Proofs.YthbnjmgjhonfbaaGreat
open Go.Vs
variable [Vs.Envs]
attribute [local irreducible] Vs.Fn
theorem lZ (l:List (List Int)) (hs:∀x,x∈l→x.length≤1048576) (hl:l.length≤1048576):Fz F.iD [.sl 1 (E cC l)] (.v (.bool (aS l))):=by
 refine fn0 Cd.i_ValidDeck_k fun X=>?_;simp -dsimp only[go_sem];refine aN.intro dM (fun i:{i:Nat // i≤l.length∧(l.take i).all (fun c=>gM c&&decide (c.length=(l.getD 0 []).length))=true}=>⟨[(0,.sl 1 (E cC l)),(5,.sl 1 (E cC l)),(6,.v (.int .i64 l.length)),(7,.v (.int .i64 i.1))],[]⟩) (fun i=>l.length-i.1) ⟨0,by simp⟩ ?_ ?_
 ·simp[Vs.LeL,Vs.look]
 ·rintro⟨i,hi,hall⟩;simp -dsimp only[go_sem];refine Br.mk (fun h1=>?_) fun h1=>?_
  ·have hlt:i<l.length:=by simpa using h1
   have h0:0<l.length:=by omega
   have hw:=aG hlt hl;have g0:l.getD 0 []=l[0]:=by simp[List.getD,h0]
   simp -dsimp only[go_sem,aX hlt,aX h0];refine⟨⟨by omega,by omega⟩,by first|omega|decide|simp[cC],?_⟩;simp -dsimp only[go_sem,cC,aX hlt];refine RgK.mk rfl ?_;simp -dsimp only[go_sem,cC,aX hlt];refine aA.flat (aHe l[i] (hs _ (List.getElem_mem hlt))) rfl ?_;simp -dsimp only[go_sem,cC,aX hlt];refine Br.mk (fun h2=>?_) fun h2=>?_
   ·simp -dsimp only[go_sem,h2];have e:(gM l[i]&&decide (l[i].length=(l.getD 0 []).length))=false:=by simp at h2;simp[h2]
    have hf:aS l=false:=by rw[aS,gJ (p:=fun c=>gM c&&decide (c.length=(l.getD 0 []).length)) hlt e];rfl
    simp[hf]
   ·simp -dsimp only[go_sem,cC,h2,aX hlt,aX h0];refine aA.flat (qC l[i]) rfl ?_;simp -dsimp only[go_sem,cC,h2,aX hlt,aX h0];refine⟨⟨by omega,by omega⟩,?_⟩;refine aA.flat (qC l[0]) rfl ?_;simp -dsimp only[go_sem,cC,h2,aX hlt,aX h0];refine Br.mk (fun h3=>?_) fun h3=>?_
    ·simp -dsimp only[go_sem]
     have e:(gM l[i]&&decide (l[i].length=(l.getD 0 []).length))=false:=by
      rw[g0];have:l[i].length≠l[0].length:=by simp at h3;omega
      simp[this]
     have hf:aS l=false:=by rw[aS,gJ (p:=fun c=>gM c&&decide (c.length=(l.getD 0 []).length)) hlt e];rfl
     simp[hf]
    ·simp -dsimp only[go_sem,hw]
     have e:(gM l[i]&&decide (l[i].length=(l.getD 0 []).length))=true:=by
      rw[g0];have:l[i].length=l[0].length:=by simp at h3;omega
      simp at h2;simp[this,h2]
     exact⟨⟨i+1,by omega,bE (p:=fun c=>gM c&&decide (c.length=(l.getD 0 []).length)) hlt hall e⟩,by simp[Vs.LeL,Vs.look],by simp only;omega⟩
  ·have hge:i=l.length:=by
    have:¬i<l.length:=by simpa using h1
    omega
   subst hge;simp -dsimp only[go_sem];have:l.all (fun c=>gM c&&decide (c.length=(l.getD 0 []).length))=true:=by simpa using hall
   rw[aS,this];simp only[Bool.true_and,Value.bool.injEq,AV.v.injEq];simp;omega
theorem aLr (l:List (List Int)):Fz F.iU [.sl 1 (E cC l)] (.v (.int .i64 l.length)):=by
 refine fn0 Cd.i_size_i_Card__k fun X=>?_
 repeat' first|simp -dsimp only[go_sem]|apply Br.mk<;>intro h<;>try simp -dsimp only[h]|refine aC ?_|fail
 all_goals(simp_all)
theorem yU (l:List (List Int)) (n:Int) (hs:∀x,x∈l→x.length≤1048576) (hl:l.length≤1048576):Fz F.jB [.sl 1 (E cC l),.v (.int .i64 n)] (.v (.int .i64 (pO l n))):=by
 refine fn0 Cd.i_sampleCode_k fun X=>?_
 repeat' first|simp -dsimp only[go_sem]|apply Br.mk<;>intro h<;>try simp -dsimp only[h]|refine aA.c (by first|exact lZ l hs hl|exact aLr l|exact inside _ _ _) ?_|refine aC ?_|fail
 all_goals(simp_all [pO,aEq])
theorem aJC (l:List Int) (hl:l.length≤1048576):Fz F.kL [.sl 1 (E cI l)] (.sl 1 (E cI l)):=by
 refine fn0 Cd.i_copyInts_k fun X=>?_;simp -dsimp only[go_sem];exact⟨by omega,rfl,⟨rfl,by omega,by omega⟩,_,_,rfl,rfl⟩
theorem aAg (c:List Int) (hc:c.length≤1048576):Fz F.mG [.agg (cC c)] (.agg (cC c)):=by
 refine fn0 Cd.i_newCard_k fun X=>?_
 repeat' first|simp -dsimp only[go_sem,cC]|apply Br.mk<;>intro h<;>try simp -dsimp only[h]|refine aA.c (by first|exact aJC c hc) ?_|refine aC ?_|fail
 all_goals(exact⟨_,_,rfl,rfl⟩)
theorem vE (l:List (List Int)) (hs:∀x,x∈l→x.length≤1048576) (hl:l.length≤1048576):Vs.Fn Tryz.prog F.fZ [] [.sl 1 (E cC l)] (.loc (.b 0) 0 l.length) [some (.arr 1 (E cC l) false)]:=by
 refine fn1 Cd.i_newDeck_k [.t 3 0] [.arr 1 (E cC l) false] fun X=>?_;unfold Cd.fZ;simp -dsimp only[go_sem];refine⟨by omega,rfl,?_⟩;refine aN.intro dM (fun i:{i:Nat // i≤l.length}=>⟨[(3,.loc (.t 3 0) 0 i.1),(7,.sl 1 (E cC l)),(8,.v (.int .i64 l.length)),(9,.v (.int .i64 i.1))],[(.t 3 0,.arr 1 (E cC (l.take i.1)) false)]⟩) (fun i=>l.length-i.1) ⟨0,by omega⟩ ?_ ?_
 ·simp[Vs.LeL,Vs.look,Vs.aB,Vs.E]
 ·rintro⟨i,hi⟩;have hti:(l.take i).length=i:=by simp;omega
  simp -dsimp only[go_sem];refine Br.mk (fun h1=>?_) fun h1=>?_
  ·have hlt:i<l.length:=by simpa using h1
   have hw:=aG hlt hl;simp -dsimp only[go_sem,aX hlt];refine⟨⟨by omega,by omega⟩,by simp[cC],?_⟩;simp -dsimp only[go_sem,cC];have hap:E cC (l.take i)++[[.sl 1 (E cI l[i])]]=E cC (l.take (i+1)):=by rw[bL hlt,aY];rfl
   refine aA.pure (aAg l[i] (hs _ (List.getElem_mem hlt))) ?_;simp -dsimp only[go_sem,cC,hti,aH,hap,hw,List.replicate_succ,List.replicate_zero,List.flatten_cons,List.flatten_nil];exact⟨by omega,⟨rfl,by omega,by omega⟩,rfl,⟨i+1,by omega⟩,by simp[Vs.LeL,Vs.look,Vs.aB],by simp only;omega⟩
  ·have hge:i=l.length:=by
    have:¬i<l.length:=by simpa using h1
    omega
   subst hge;simp -dsimp only[go_sem];exact⟨⟨[],[],rfl,by rw[List.take_length]⟩,by simp⟩
def gL (l:List (List Int)) (p:List (List (List Int))):List (List (List Int)):=p.flatMap fun d=>l.map fun c=>d++[c]
def eP (l:List (List Int)):Nat→List (List (List Int))
 |0=>[[]]
 |i+1=>gL l (eP l i)
def kZ (l:List (List Int)):Nat→List (List (List Int))
 |0=>[[]]
 |i+1=>kZ l i++eP l (i+1)
theorem vD (l:List (List Int)) (p:List (List (List Int))):(gL l p).length=p.length*l.length:=by
 induction p with
 |nil=>simp[gL]
 | cons d r ih =>
  have:gL l (d::r)=(l.map fun c=>d++[c])++gL l r:=by simp[gL]
  rw[this,List.length_append,ih,List.length_map,List.length_cons,Nat.succ_mul,Nat.add_comm]
theorem sK (l:List (List Int)):∀i,(eP l i).length=l.length ^ i
 |0=>rfl
 |i+1=>by rw[eP,vD,sK l i,Nat.pow_succ]
def geo (m:Nat):Nat→Nat
 |0=>1
 |i+1=>geo m i+m ^ (i+1)
theorem eU (l:List (List Int)):∀i,(kZ l i).length=geo l.length i
 |0=>rfl
 |i+1=>by rw[kZ,List.length_append,eU l i,sK,geo]
theorem aIJ (m i:Nat) (hm:m≤5) (hi:i≤4):m ^ i≤625:=by
 have h1:m ^ i≤5 ^ i:=Nat.pow_le_pow_left hm i;have h2:5 ^ i≤5 ^ 4:=Nat.pow_le_pow_right (by omega) hi;have h3:5 ^ 4=625:=rfl;omega
theorem aD5 (m:Nat) (hm:m≤5):∀i,i≤3→geo m i≤1+i*625
 |0,_=>by simp[geo]
 | i+1,h=>by
  have:=aD5 m hm i (by omega);have:=aIJ m (i+1) hm (by omega);simp only[geo];omega
end Go.Proofs.YthbnjmgjhonfbaaGreat
