/- Offices: sizes, copies, comparisons. -/
import Derived.Test.YtfoddghhlagenaaGreatDoorTuR
import Derived.Test.YtfoddghhlagenaaGreatDoorTuD
import Derived.Test.YtfoddghhlagenaaGreatDoorVtN
set_option linter.all false
set_option maxHeartbeats 8000000
namespace Go.Proofs.YtfoddghhlagenaaGreatDoor
open Go.Vs
variable [Vs.Envs]
attribute [local irreducible] Vs.Fn
structure Off where
 trays:List (List (List Int))
 totals:List (List Tot)
def jK (l:List (List Int)):Prop:=l.length<=1048576∧∀c,c∈l->c.length<=1048576
def qC (c d:List Int):Bool:=rJ qI c d
def qD (l m:List (List Int)):Bool:=rJ qC l m
theorem aCe (l m:List Int) (hl:l.length<=1048576):Fz F.lM [.sl 1 (E cI l),.sl 1 (E cI m)] (.v (.bool (qC l m))):=
 aFS Tryz.mixed Cd.s_l00Same_k.o Cd.s_l00Same_k.n Cd.s_l00Same_k.r rfl hl
theorem yN (l m:List (List Int)) (hl:jK l):Fz F.l8 [.sl 1 (E cC l),.sl 1 (E cC m)] (.v (.bool (qD l m))):=by
 refine fn0 Cd.s_SameDeck_k λX=>?_
 simp -dsimp only[go_sem]
 refine Br.mk (λh0=>?_) λh0=>?_
 .simp -dsimp only[go_sem]
  have:l.length≠m.length:=by rintro e;simp[e] at h0
  simp[qD,xQ this]
 have he:l.length=m.length:=by
  have:=h0
  simp at this
  omega
 simp -dsimp only[go_sem]
 refine bA.at dM (X:={zz:Nat×(Unit) // zz.1<=l.length∧rJ qC (l.drop zz.1) (m.drop zz.1)=qD l m}) (λzz=>[(5,.v (.int .i64 zz.1.1))]) (λzz=>[]) (λzz=>l.length-zz.1.1) ⟨(0,()),by omega,rfl⟩ ?_ ?_
 .exact le0
 .rintro⟨⟨i,_⟩,hi,hg⟩
  dsimp only at hi hg
  simp -dsimp only[go_sem]
  refine Br.mk (λhc=>?_) λhc=>?_
  .have hlt:i<l.length:=Dq
   have hw:=aQ hlt hl.1
   have hlt':i<m.length:=by omega
   rw[zG hlt hlt'] at hg
   simp -dsimp only[go_sem,bI hlt,bI hlt',cC]
   repeat' first|simp -dsimp only[go_sem,bI hlt,bI hlt',cC,hw]|apply Br.mk<;>intro h<;>try simp -dsimp only[h]|refine aB.c (by first|exact aCe _ _ (hl.2 _ (List.getElem_mem hlt))) ?_|refine aC ?_|refine aC9 ?_|fail
   all_goals first
    |(refine fT ?_;simp_all [qD];done)
    |(exact nx (i+1,()) (by simp_all [qD]))
  .have hge:i=l.length:=by
    have:¬i<l.length:=Dq
    omega
   subst hge
   simp -dsimp only[go_sem]
   simp only[he,List.drop_length] at hg
   rw[←he,List.drop_length] at hg
   simp[←hg,rJ]
end Go.Proofs.YtfoddghhlagenaaGreatDoor
