/- The program's decks of samples. -/
import Derived.Test.YthfnpdhpefialaaGreatYuR
set_option linter.all false
set_option maxHeartbeats 8000000
namespace Go.Proofs.YthfnpdhpefialaaGreat
open Go.Vs
variable [Vs.Envs]
attribute [local irreducible] Vs.Fn
theorem validDeck (l:List (List Int)) (hs:∀x,x∈l→x.length≤1048576) (hl:l.length≤1048576):Fz F.i_ValidDeck [.sl 1 (E cC l)] (.v (.bool (deckB l))):=by
 refine fn0 Cd.i_ValidDeck_k fun X=>?_
 simp -dsimp only[go_sem]
 refine LoopK.intro dM (fun i:{i:Nat // i≤l.length∧(l.take i).all (fun c=>cardB c&&decide (c.length=(l.getD 0 []).length))=true}=>⟨[(0,.sl 1 (E cC l)),(5,.sl 1 (E cC l)),(6,.v (.int .i64 l.length)),(7,.v (.int .i64 i.1))],[]⟩) (fun i=>l.length-i.1) ⟨0,by simp⟩ ?_ ?_
 ·simp[Vs.LeL,Vs.look]
 ·rintro⟨i,hi,hall⟩
  simp -dsimp only[go_sem]
  refine Br.mk (fun h1=>?_) fun h1=>?_
  ·have hlt:i<l.length:=by simpa using h1
   have h0:0<l.length:=by omega
   have hw:=wrap_succ hlt hl
   have g0:l.getD 0 []=l[0]:=by simp[List.getD,h0]
   simp -dsimp only[go_sem,E_get hlt,E_get h0]
   refine⟨⟨by omega,by omega⟩,by first|omega|decide|simp[cC],?_⟩
   simp -dsimp only[go_sem,cC,E_get hlt]
   refine RgK.mk rfl ?_
   simp -dsimp only[go_sem,cC,E_get hlt]
   refine CallK.flat (validCard l[i] (hs _ (List.getElem_mem hlt))) rfl ?_
   simp -dsimp only[go_sem,cC,E_get hlt]
   refine Br.mk (fun h2=>?_) fun h2=>?_
   ·simp -dsimp only[go_sem,h2]
    have e:(cardB l[i]&&decide (l[i].length=(l.getD 0 []).length))=false:=by simp at h2;simp[h2]
    have hf:deckB l=false:=by rw[deckB,not_all (p:=fun c=>cardB c&&decide (c.length=(l.getD 0 []).length)) hlt e];rfl
    simp[hf]
   ·simp -dsimp only[go_sem,cC,h2,E_get hlt,E_get h0]
    refine CallK.flat (columns l[i]) rfl ?_
    simp -dsimp only[go_sem,cC,h2,E_get hlt,E_get h0]
    refine⟨⟨by omega,by omega⟩,?_⟩
    refine CallK.flat (columns l[0]) rfl ?_
    simp -dsimp only[go_sem,cC,h2,E_get hlt,E_get h0]
    refine Br.mk (fun h3=>?_) fun h3=>?_
    ·simp -dsimp only[go_sem]
     have e:(cardB l[i]&&decide (l[i].length=(l.getD 0 []).length))=false:=by
      rw[g0]
      have:l[i].length≠l[0].length:=by simp at h3;omega
      simp[this]
     have hf:deckB l=false:=by rw[deckB,not_all (p:=fun c=>cardB c&&decide (c.length=(l.getD 0 []).length)) hlt e];rfl
     simp[hf]
    ·simp -dsimp only[go_sem,hw]
     have e:(cardB l[i]&&decide (l[i].length=(l.getD 0 []).length))=true:=by
      rw[g0]
      have:l[i].length=l[0].length:=by simp at h3;omega
      simp at h2
      simp[this,h2]
     exact⟨⟨i+1,by omega,take_succ_all (p:=fun c=>cardB c&&decide (c.length=(l.getD 0 []).length)) hlt hall e⟩,by simp[Vs.LeL,Vs.look],by simp only;omega⟩
  ·have hge:i=l.length:=by
    have:¬i<l.length:=by simpa using h1
    omega
   subst hge
   simp -dsimp only[go_sem]
   have:l.all (fun c=>cardB c&&decide (c.length=(l.getD 0 []).length))=true:=by simpa using hall
   rw[deckB,this]
   simp only[Bool.true_and,Value.bool.injEq,AV.v.injEq]
   simp
   omega
theorem sizeC (l:List (List Int)):Fz F.i_size_i_Card_ [.sl 1 (E cC l)] (.v (.int .i64 l.length)):=by
 refine fn0 Cd.i_size_i_Card__k fun X=>?_
 repeat' first|simp -dsimp only[go_sem]|apply Br.mk<;>intro h<;>try simp -dsimp only[h]|refine aC ?_|fail
 all_goals(simp_all)
theorem sampleCode (l:List (List Int)) (n:Int) (hs:∀x,x∈l→x.length≤1048576) (hl:l.length≤1048576):Fz F.i_sampleCode [.sl 1 (E cC l),.v (.int .i64 n)] (.v (.int .i64 (codeI l n))):=by
 refine fn0 Cd.i_sampleCode_k fun X=>?_
 repeat' first|simp -dsimp only[go_sem]|apply Br.mk<;>intro h<;>try simp -dsimp only[h]|refine CallK.c (by first|exact validDeck l hs hl|exact sizeC l|exact inside _ _ _) ?_|refine aC ?_|fail
 all_goals(simp_all [codeI,sampB])
theorem copyInts (l:List Int) (hl:l.length≤1048576):Fz F.i_copyInts [.sl 1 (E cI l)] (.sl 1 (E cI l)):=by
 refine fn0 Cd.i_copyInts_k fun X=>?_
 simp -dsimp only[go_sem]
 exact⟨by omega,rfl,⟨rfl,by omega,by omega⟩,_,_,rfl,rfl⟩
theorem newCard (c:List Int) (hc:c.length≤1048576):Fz F.i_newCard [.agg (cC c)] (.agg (cC c)):=by
 refine fn0 Cd.i_newCard_k fun X=>?_
 repeat' first|simp -dsimp only[go_sem,cC]|apply Br.mk<;>intro h<;>try simp -dsimp only[h]|refine CallK.c (by first|exact copyInts c hc) ?_|refine aC ?_|fail
 all_goals(exact⟨_,_,rfl,rfl⟩)
theorem newDeck (l:List (List Int)) (hs:∀x,x∈l→x.length≤1048576) (hl:l.length≤1048576):Vs.Fn Tryz.prog F.i_newDeck [] [.sl 1 (E cC l)] (.loc (.b 0) 0 l.length) [some (.arr 1 (E cC l) false)]:=by
 refine fn1 Cd.i_newDeck_k [.t 3 0] [.arr 1 (E cC l) false] fun X=>?_
 unfold Cd.i_newDeck
 simp -dsimp only[go_sem]
 refine⟨by omega,rfl,?_⟩
 refine LoopK.intro dM (fun i:{i:Nat // i≤l.length}=>⟨[(3,.loc (.t 3 0) 0 i.1),(7,.sl 1 (E cC l)),(8,.v (.int .i64 l.length)),(9,.v (.int .i64 i.1))],[(.t 3 0,.arr 1 (E cC (l.take i.1)) false)]⟩) (fun i=>l.length-i.1) ⟨0,by omega⟩ ?_ ?_
 ·simp[Vs.LeL,Vs.look,Vs.hlook,Vs.E]
 ·rintro⟨i,hi⟩
  have hti:(l.take i).length=i:=by simp;omega
  simp -dsimp only[go_sem]
  refine Br.mk (fun h1=>?_) fun h1=>?_
  ·have hlt:i<l.length:=by simpa using h1
   have hw:=wrap_succ hlt hl
   simp -dsimp only[go_sem,E_get hlt]
   refine⟨⟨by omega,by omega⟩,by simp[cC],?_⟩
   simp -dsimp only[go_sem,cC]
   have hap:E cC (l.take i)++[[.sl 1 (E cI l[i])]]=E cC (l.take (i+1)):=by rw[take_succ hlt,E_append];rfl
   refine CallK.pure (newCard l[i] (hs _ (List.getElem_mem hlt))) ?_
   simp -dsimp only[go_sem,cC,hti,E_len,hap,hw,List.replicate_succ,List.replicate_zero,List.flatten_cons,List.flatten_nil]
   exact⟨by omega,⟨rfl,by omega,by omega⟩,rfl,⟨i+1,by omega⟩,by simp[Vs.LeL,Vs.look,Vs.hlook],by simp only;omega⟩
  ·have hge:i=l.length:=by
    have:¬i<l.length:=by simpa using h1
    omega
   subst hge
   simp -dsimp only[go_sem]
   exact⟨⟨[],[],rfl,by rw[List.take_length]⟩,by simp⟩
def nextD (l:List (List Int)) (p:List (List (List Int))):List (List (List Int)):=p.flatMap fun d=>l.map fun c=>d++[c]
def levD (l:List (List Int)):Nat→List (List (List Int))
 |0=>[[]]
 |i+1=>nextD l (levD l i)
def allD (l:List (List Int)):Nat→List (List (List Int))
 |0=>[[]]
 |i+1=>allD l i++levD l (i+1)
theorem nextD_length (l:List (List Int)) (p:List (List (List Int))):(nextD l p).length=p.length*l.length:=by
 induction p with
 |nil=>simp[nextD]
 | cons d r ih =>
  have:nextD l (d::r)=(l.map fun c=>d++[c])++nextD l r:=by simp[nextD]
  rw[this,List.length_append,ih,List.length_map,List.length_cons,Nat.succ_mul,Nat.add_comm]
theorem levD_length (l:List (List Int)):∀i,(levD l i).length=l.length ^ i
 |0=>rfl
 |i+1=>by rw[levD,nextD_length,levD_length l i,Nat.pow_succ]
def geo (m:Nat):Nat→Nat
 |0=>1
 |i+1=>geo m i+m ^ (i+1)
theorem allD_length (l:List (List Int)):∀i,(allD l i).length=geo l.length i
 |0=>rfl
 |i+1=>by rw[allD,List.length_append,allD_length l i,levD_length,geo]
theorem pow_le (m i:Nat) (hm:m≤5) (hi:i≤4):m ^ i≤625:=by
 have h1:m ^ i≤5 ^ i:=Nat.pow_le_pow_left hm i
 have h2:5 ^ i≤5 ^ 4:=Nat.pow_le_pow_right (by omega) hi
 have h3:5 ^ 4=625:=rfl
 omega
theorem geo_le (m:Nat) (hm:m≤5):∀i,i≤3→geo m i≤1+i*625
 |0,_=>by simp[geo]
 | i+1,h=>by
  have:=geo_le m hm i (by omega)
  have:=pow_le m (i+1) hm (by omega)
  simp only[geo];omega
end Go.Proofs.YthfnpdhpefialaaGreat
