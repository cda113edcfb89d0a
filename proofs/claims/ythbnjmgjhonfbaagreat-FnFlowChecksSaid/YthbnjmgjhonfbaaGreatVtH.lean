/- Comparisons of lists. -/
import Derived.Test.YthbnjmgjhonfbaaGreatVtF
set_option linter.all false
set_option maxHeartbeats 8000000
namespace Go.Vs
section
variable [Envs]
variable {P:Program}{α:Type}{c:α→List AV}
attribute [local irreducible] Fn
end
section
variable [Envs]
variable {P:Program}{α:Type}{c:α→List AV}
attribute [local irreducible] Fn
def lX (q:α→α→Bool):List α→List α→Bool
 | [],[]=>true
 |x::r,y::s=>q x y&&lX q r s
 |_,_=>false
theorem aCp {q:α→α→Bool}:∀{l m:List α},l.length≠m.length→lX q l m=false
 | [],[],h=>absurd rfl h
 | [],_::_,_=>rfl
 |_::_,[],_=>rfl
 | x::r,y::s,h=>by
  rw[lX,aCp (by simpa using h),Bool.and_false]
theorem aDp {q:α→α→Bool}{l m:List α}{i:Nat} (h:i<l.length) (h':i<m.length):lX q (l.drop i) (m.drop i)=(q l[i] m[i]&&lX q (l.drop (i+1)) (m.drop (i+1))):=by
 rw[List.drop_eq_getElem_cons h,List.drop_eq_getElem_cons h',lX]
theorem aDq {q:α→α→Bool}:∀{l:List α},(∀x,x∈l→q x x=true)→lX q l l=true
 | [],_=>rfl
 |x::r,h=>by rw[lX,h x (by simp),aDq fun y hy=>h y (by simp[hy])];rfl
def aCZ (k:Nat) (ks:List Nat):aD:=
 .seq (.region [⟨some 4,.mv (.const (.bool false)),none⟩] [0,1] []) <|
 .seq (.seq (.region [⟨some 6,.mv (.tmp 0),none⟩,
     ⟨some 7,.len (.tmp 6),none⟩,
     ⟨some 8,.mv (.tmp 1),none⟩,
     ⟨some 9,.len (.tmp 8),none⟩,
     ⟨some 10,.bin .neq (.tmp 7) (.tmp 9),none⟩] [0,1,10] []) <|
  .cond (.tmp 10)
    (.seq (.region [⟨some 4,.mv (.const (.bool false)),none⟩] [4] []) <|
    .ret)
    (.skip)) <|
 .seq (.seq (.region [⟨some 5,.mv (.const (.int .i64 (0))),none⟩] [0,1,5] []) <|
  .block 0 (
    .loop (
      .seq (.seq (.region [⟨some 11,.mv (.tmp 5),none⟩,
          ⟨some 12,.mv (.tmp 0),none⟩,
          ⟨some 13,.len (.tmp 12),none⟩,
          ⟨some 14,.bin .lss (.tmp 11) (.tmp 13),none⟩] [0,1,5,14] []) <|
       .cond (.tmp 14)
         (.skip)
         (.exit 0)) <|
      .seq (.block 1 (
         .seq (.region [⟨some 17,.mv (.tmp 0),none⟩,
            ⟨some 18,.mv (.tmp 5),none⟩,
            ⟨some 19,.idxSl k (.tmp 17) (.tmp 18),none⟩,
            ⟨some 20,.load true k (.tmp 19),none⟩,
            ⟨some 21,.mv (.tmp 1),none⟩,
            ⟨some 22,.mv (.tmp 5),none⟩,
            ⟨some 23,.idxSl k (.tmp 21) (.tmp 22),none⟩,
            ⟨some 24,.load true k (.tmp 23),none⟩,
            ⟨some 25,.eqA true ks (.tmp 20) (.tmp 24),none⟩] [0,1,5,25] [17,18,20,21,19,22,23,24,25]) <|
         .cond (.tmp 25)
           (.seq (.region [⟨some 4,.mv (.const (.bool false)),none⟩] [4] []) <|
           .ret)
           (.skip))) <|
      .region [⟨some 15,.mv (.tmp 5),none⟩,
        ⟨some 16,.bin .add (.tmp 15) (.const (.int .i64 (1))),none⟩,
        ⟨some 5,.mv (.tmp 16),none⟩] [0,1,5] []))) <|
 .seq (.region [⟨some 4,.mv (.const (.bool true)),none⟩] [4] []) <|
 .ret
attribute [local go_sem] reduceIte reduceCtorEq Nat.reduceEqDiff in
theorem aKb (hm:P.follows .mixedOrders=true) {f:FuncId}{fn:Func}{k:Nat}{ks:List Nat}{nt:Nat} (h:kC P f fn (aCZ k ks)) (hnt:fn.ntmps=nt) (hrs:fn.results.toList=[.tmp 4]) (hna:Nat.ble 2 nt=true)
  {q:α→α→Bool} (hk:∀x,(c x).length=k) (hq:∀x y,eqC ks (c x) (c y)=some (q x y)) {l m:List α} (hl:l.length≤1048576) :
  Fn P f [] [.sl k (E c l),.sl k (E c m)] (.v (.bool (lX q l m))) []:=by
 refine h.fn0 hm hnt hrs hna fun X=>?_;unfold aCZ;simp -dsimp only[go_sem];refine Br.mk (fun h0=>?_) fun h0=>?_
 ·simp -dsimp only[go_sem];have:l.length≠m.length:=by rintro e;simp[e] at h0
  simp[aCp this]
 ·have he:l.length=m.length:=by
   have:=h0;simp at this;omega
  simp -dsimp only[go_sem];refine aN.intro (pM hm) (fun i:{i:Nat // i≤l.length∧lX q (l.drop i) (m.drop i)=lX q l m}=>⟨[(0,.sl k (E c l)),(1,.sl k (E c m)),(5,.v (.int .i64 i.1))],[]⟩) (fun i=>l.length-i.1) ⟨0,by simp⟩ ?_ ?_
  ·simp[LeL,look]
  ·rintro⟨i,hi,hP⟩;simp -dsimp only[go_sem];refine Br.mk (fun h1=>?_) fun h1=>?_
   ·have hlt:i<l.length:=by simpa using h1
    have hlt':i<m.length:=by omega
    have hw:=aG hlt hl;have ht:(c l[i]).take k=c l[i]:=List.take_of_length_le (by rw[hk];exact Nat.le_refl _);have ht':(c m[i]).take k=c m[i]:=List.take_of_length_le (by rw[hk];exact Nat.le_refl _);rw[aDp hlt hlt'] at hP;simp -dsimp only[go_sem];refine RgK.mk rfl ?_;simp -dsimp only[go_sem,aX hlt,aX hlt',ht,ht',hq];refine⟨⟨by omega,by omega⟩,by rw[hk];exact Nat.le_refl _,⟨by omega,by omega⟩,by rw[hk];exact Nat.le_refl _,?_⟩;refine Br.mk (fun h2=>?_) fun h2=>?_
    ·simp -dsimp only[go_sem];have h2:q l[i] m[i]=false:=by simpa using h2
     rw[h2] at hP;simp[←hP]
    ·simp -dsimp only[go_sem,hw];have h2:q l[i] m[i]=true:=by simpa using h2
     rw[h2,Bool.true_and] at hP;exact⟨⟨i+1,by omega,hP⟩,by simp[LeL,look],by simp only;omega⟩
   ·simp -dsimp only[go_sem]
    have hge:i=l.length:=by
     have:¬i<l.length:=by simpa using h1
     omega
    subst hge;rw[he,List.drop_length,←he,List.drop_length] at hP;simp[←hP,lX]
def aC0 (k:Nat) (ks:List Nat):aD:=
 .seq (.region [⟨some 4,.mv (.const (.bool false)),none⟩] [0,1] []) <|
 .seq (.seq (.region [⟨some 6,.mv (.tmp 0),none⟩,
     ⟨some 7,.len (.tmp 6),none⟩,
     ⟨some 8,.mv (.tmp 1),none⟩,
     ⟨some 9,.len (.tmp 8),none⟩,
     ⟨some 10,.bin .neq (.tmp 7) (.tmp 9),none⟩] [0,1,10] []) <|
  .cond (.tmp 10)
    (.seq (.region [⟨some 4,.mv (.const (.bool false)),none⟩] [4] []) <|
    .ret)
    (.skip)) <|
 .seq (.seq (.region [⟨some 11,.mv (.tmp 0),none⟩,
     ⟨some 12,.len (.tmp 11),none⟩,
     ⟨some 13,.mv (.const (.int .i64 (0))),none⟩] [0,1,12,13] []) <|
  .block 0 (
    .loop (
      .seq (.region [⟨some 14,.bin .lss (.tmp 13) (.tmp 12),none⟩] [0,1,12,13,14] []) <|
      .seq (.cond (.tmp 14)
         (.skip)
         (.exit 0)) <|
      .seq (.block 1 (
         .seq (.region [⟨some 15,.mv (.tmp 13),none⟩,
            ⟨some 5,.mv (.tmp 15),none⟩] [0,1,5,12,13] []) <|
         .seq (.region [⟨some 16,.mv (.tmp 0),none⟩,
            ⟨some 17,.mv (.tmp 5),none⟩,
            ⟨some 18,.idxSl k (.tmp 16) (.tmp 17),none⟩,
            ⟨some 19,.load true k (.tmp 18),none⟩,
            ⟨some 20,.mv (.tmp 1),none⟩,
            ⟨some 21,.mv (.tmp 5),none⟩,
            ⟨some 22,.idxSl k (.tmp 20) (.tmp 21),none⟩,
            ⟨some 23,.load true k (.tmp 22),none⟩,
            ⟨some 24,.eqA true ks (.tmp 19) (.tmp 23),none⟩] [0,1,12,13,24] [16,17,19,20,18,21,22,23,24]) <|
         .cond (.tmp 24)
           (.seq (.region [⟨some 4,.mv (.const (.bool false)),none⟩] [4] []) <|
           .ret)
           (.skip))) <|
      .region [⟨some 25,.bin .add (.tmp 13) (.const (.int .i64 (1))),none⟩,
        ⟨some 13,.mv (.tmp 25),none⟩] [0,1,12,13] []))) <|
 .seq (.region [⟨some 4,.mv (.const (.bool true)),none⟩] [4] []) <|
 .ret
attribute [local go_sem] reduceIte reduceCtorEq Nat.reduceEqDiff in
theorem aKe (hm:P.follows .mixedOrders=true) {f:FuncId}{fn:Func}{k:Nat}{ks:List Nat}{nt:Nat} (h:kC P f fn (aC0 k ks)) (hnt:fn.ntmps=nt) (hrs:fn.results.toList=[.tmp 4]) (hna:Nat.ble 2 nt=true)
  {q:α→α→Bool} (hk:∀x,(c x).length=k) (hq:∀x y,eqC ks (c x) (c y)=some (q x y)) {l m:List α} (hl:l.length≤1048576) :
  Fn P f [] [.sl k (E c l),.sl k (E c m)] (.v (.bool (lX q l m))) []:=by
 refine h.fn0 hm hnt hrs hna fun X=>?_;unfold aC0;simp -dsimp only[go_sem];refine Br.mk (fun h0=>?_) fun h0=>?_
 ·simp -dsimp only[go_sem];have:l.length≠m.length:=by rintro e;simp[e] at h0
  simp[aCp this]
 ·have he:l.length=m.length:=by
   have:=h0;simp at this;omega
  simp -dsimp only[go_sem];refine aN.intro (pM hm) (fun i:{i:Nat // i≤l.length∧lX q (l.drop i) (m.drop i)=lX q l m}=>⟨[(0,.sl k (E c l)),(1,.sl k (E c m)),(12,.v (.int .i64 l.length)),(13,.v (.int .i64 i.1))],[]⟩) (fun i=>l.length-i.1) ⟨0,by simp⟩ ?_ ?_
  ·simp[LeL,look]
  ·rintro⟨i,hi,hP⟩;simp -dsimp only[go_sem];refine Br.mk (fun h1=>?_) fun h1=>?_
   ·have hlt:i<l.length:=by simpa using h1
    have hlt':i<m.length:=by omega
    have hw:=aG hlt hl;have ht:(c l[i]).take k=c l[i]:=List.take_of_length_le (by rw[hk];exact Nat.le_refl _);have ht':(c m[i]).take k=c m[i]:=List.take_of_length_le (by rw[hk];exact Nat.le_refl _);rw[aDp hlt hlt'] at hP;simp -dsimp only[go_sem];refine RgK.mk rfl ?_;simp -dsimp only[go_sem,aX hlt,aX hlt',ht,ht',hq];refine⟨⟨by omega,by omega⟩,by rw[hk];exact Nat.le_refl _,⟨by omega,by omega⟩,by rw[hk];exact Nat.le_refl _,?_⟩;refine Br.mk (fun h2=>?_) fun h2=>?_
    ·simp -dsimp only[go_sem];have h2:q l[i] m[i]=false:=by simpa using h2
     rw[h2] at hP;simp[←hP]
    ·simp -dsimp only[go_sem,hw];have h2:q l[i] m[i]=true:=by simpa using h2
     rw[h2,Bool.true_and] at hP;exact⟨⟨i+1,by omega,hP⟩,by simp[LeL,look],by simp only;omega⟩
   ·simp -dsimp only[go_sem]
    have hge:i=l.length:=by
     have:¬i<l.length:=by simpa using h1
     omega
    subst hge;rw[he,List.drop_length,←he,List.drop_length] at hP;simp[←hP,lX]
end
end Go.Vs
