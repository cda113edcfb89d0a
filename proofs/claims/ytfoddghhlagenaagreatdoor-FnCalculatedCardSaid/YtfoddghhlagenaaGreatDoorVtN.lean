/- What a size that is not exceeded says of a list and of what is in it. -/
import Derived.Test.YtfoddghhlagenaaGreatDoorVtK
set_option linter.all false
set_option maxHeartbeats 8000000
namespace Go.Vs
section
variable [Envs]
variable {P:Program}{α:Type}{d:α->AV}
attribute [local irreducible] Fn
end
section
variable [Envs]
variable {P:Program}
attribute [local irreducible] Fn
def qI (a b:Int):Bool:=a==b
def aAt:aD:=
 .seq (.region [⟨some 4,.mv (.const (.bool false)),none⟩] [0,1] []) <|
 .seq (.seq (.region [⟨some 6,.mv (.tmp 0),none⟩,
     ⟨some 7,.len (.tmp 6),none⟩,
     ⟨some 8,.mv (.tmp 1),none⟩,
     ⟨some 9,.len (.tmp 8),none⟩,
     ⟨some 10,.bin .neq (.tmp 7) (.tmp 9),none⟩] [0,1,10] []) <|
  .cond (.tmp 10)
    (.seq (.region [⟨some 4,.mv (.const (.bool false)),none⟩] [4] []) <|
    .ret)
    (.skip)) <|
 .seq (.seq (.region [⟨some 5,.mv (.const (.int .i64 (0))),none⟩] [0,1,5] []) <|
  .block 0 (
    .loop (
      .seq (.seq (.region [⟨some 11,.mv (.tmp 5),none⟩,
          ⟨some 12,.mv (.tmp 0),none⟩,
          ⟨some 13,.len (.tmp 12),none⟩,
          ⟨some 14,.bin .lss (.tmp 11) (.tmp 13),none⟩] [0,1,5,14] []) <|
       .cond (.tmp 14)
         (.skip)
         (.exit 0)) <|
      .seq (.block 1 (
         .seq (.region [⟨some 17,.mv (.tmp 0),none⟩,
            ⟨some 18,.mv (.tmp 5),none⟩,
            ⟨some 19,.idxSl 1 (.tmp 17) (.tmp 18),none⟩,
            ⟨some 20,.load false 1 (.tmp 19),none⟩,
            ⟨some 21,.mv (.tmp 1),none⟩,
            ⟨some 22,.mv (.tmp 5),none⟩,
            ⟨some 23,.idxSl 1 (.tmp 21) (.tmp 22),none⟩,
            ⟨some 24,.load false 1 (.tmp 23),none⟩,
            ⟨some 25,.bin .neq (.tmp 20) (.tmp 24),none⟩] [0,1,5,25] [17,18,20,21,19,22,23,24,25]) <|
         .cond (.tmp 25)
           (.seq (.region [⟨some 4,.mv (.const (.bool false)),none⟩] [4] []) <|
           .ret)
           (.skip))) <|
      .region [⟨some 15,.mv (.tmp 5),none⟩,
        ⟨some 16,.bin .add (.tmp 15) (.const (.int .i64 (1))),none⟩,
        ⟨some 5,.mv (.tmp 16),none⟩] [0,1,5] []))) <|
 .seq (.region [⟨some 4,.mv (.const (.bool true)),none⟩] [4] []) <|
 .ret
attribute [local go_sem] reduceIte reduceCtorEq Nat.reduceEqDiff in
theorem aFS (hm:P.follows .mixedOrders=true) {f:FuncId}{fn:Func}{nt:Nat} (h:iG P f fn (aAt)) (hnt:fn.ntmps=nt) (hrs:fn.results.toList=[.tmp 4]) (hna:Nat.ble 2 nt=true)
  {l m:List Int} (hl:l.length<=1048576) :
  Fn P f [] [.sl 1 (E cI l),.sl 1 (E cI m)] (.v (.bool (rJ qI l m))) []:=by
 refine h.fn0 hm hnt hrs hna λX=>?_
 unfold aAt
 simp -dsimp only[go_sem]
 refine Br.mk (λh0=>?_) λh0=>?_
 .simp -dsimp only[go_sem]
  have:l.length≠m.length:=by rintro e;simp[e] at h0
  simp[xQ this]
 .have he:l.length=m.length:=by
   have:=h0
   simp at this
   omega
  simp -dsimp only[go_sem]
  refine bA.intro (jH hm) (λi:{i:Nat // i<=l.length∧rJ qI (l.drop i) (m.drop i)=rJ qI l m}=>⟨[(0,.sl 1 (E cI l)),(1,.sl 1 (E cI m)),(5,.v (.int .i64 i.1))],[]⟩) (λi=>l.length-i.1) ⟨0,by simp⟩ ?_ ?_
  .simp[LeL,look]
  .rintro⟨i,hi,hP⟩
   simp -dsimp only[go_sem]
   refine Br.mk (λh1=>?_) λh1=>?_
   .have hlt:i<l.length:=by simpa using h1
    have hlt':i<m.length:=by omega
    have hw:=aQ hlt hl
    rw[zG hlt hlt'] at hP
    simp -dsimp only[go_sem]
    refine RgK.mk rfl ?_
    simp -dsimp only[go_sem,jI hlt,jI hlt']
    refine⟨⟨by omega,by omega⟩,⟨by omega,by omega⟩,?_⟩
    refine Br.mk (λh2=>?_) λh2=>?_
    .simp -dsimp only[go_sem]
     have h2:qI l[i] m[i]=false:=by simpa[qI] using h2
     rw[h2] at hP
     simp[←hP]
    .simp -dsimp only[go_sem,hw]
     have h2:qI l[i] m[i]=true:=by simpa[qI] using h2
     rw[h2,Bool.true_and] at hP
     exact⟨⟨i+1,by omega,hP⟩,by simp[LeL,look],by simp only;omega⟩
   .simp -dsimp only[go_sem]
    have hge:i=l.length:=by
     grind
    subst hge
    rw[he,List.drop_length,←he,List.drop_length] at hP
    simp[←hP,rJ]
end
section
variable [Envs]
end
end Go.Vs
