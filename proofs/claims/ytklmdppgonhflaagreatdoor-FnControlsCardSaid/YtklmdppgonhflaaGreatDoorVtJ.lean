/- Lists of numbers: size, copy, comparison. -/
import Derived.Test.YtklmdppgonhflaaGreatDoorVtF
set_option linter.all false
set_option maxHeartbeats 8000000
namespace Go.Vs
section
variable [Envs]
variable {P:Program}{α:Type}{c:α->List AV}
attribute [local irreducible] Fn
end
section
variable [Envs]
variable {P:Program}{α:Type}{c:α->List AV}
attribute [local irreducible] Fn
end
section
variable [Envs]
variable {P:Program}{α:Type}{c:α->List AV}
attribute [local irreducible] Fn
def uW (p:α->Bool) (l:List α):Int:=match l.findIdx? p with|some i=>i|none=>-1
theorem aEE {p:α->Bool}{l:List α} (h:l.all (λx=>!p x)=true):uW p l=-1:=by
 have:l.findIdx? p=none:=by
  rw[List.findIdx?_eq_none_iff];intro x F;simpa using Az.1 h x F
 simp[uW,this]
theorem aED {p:α->Bool}{l:List α}{i:Nat} (hi:i<l.length) (h:(l.take i).all (λx=>!p x)=true) (F:p l[i]=true):uW p l=i:=by
 have:l.findIdx? p=some i:=by
  rw[Du];refine⟨hi,F,λj G=>?_⟩
  have:=Az.1 h l[j] (by
    rw[List.mem_take_iff_getElem];exact⟨j,by omega,rfl⟩)
  simpa using this
 simp[uW,this]
theorem aLA (p:α->Bool) (l:List α):decide (uW p l≥0)=l.any p:=by
 unfold uW;cases h:l.findIdx? p with
 | none =>
  rw[List.findIdx?_eq_none_iff] at h
  have:l.any p=false:=by
   rw[List.any_eq_false];intro x G;simp[h x G]
  simp[this]
 | some i =>
  rw[Du] at h;obtain⟨hi,F,_⟩:=h;have:l.any p=true:=List.any_eq_true.2 ⟨l[i],Aa hi,F⟩;simp[this]
def aGr (k:Nat):aD:=
 .seq (.region [⟨some 4,.mv (.const (.int .i64 (0))),none⟩] [0,1] []) <|
 .seq (.seq (.region [⟨some 6,.mv (.tmp 0),none⟩,
     ⟨some 7,.len (.tmp 6),none⟩,
     ⟨some 8,.mv (.const (.int .i64 (0))),none⟩] [0,1,7,8] []) <|
  .block 0 (
    .loop (
      .seq (.region [⟨some 9,.bin .lss (.tmp 8) (.tmp 7),none⟩] [0,1,7,8,9] []) <|
      .seq (.cond (.tmp 9)
         (.skip)
         (.exit 0)) <|
      .seq (.block 1 (
         .seq (.region [⟨some 10,.mv (.tmp 8),none⟩,
            ⟨some 5,.mv (.tmp 10),none⟩] [0,1,5,7,8] []) <|
         .seq (.region [⟨some 11,.mv (.tmp 1),none⟩,
            ⟨some 12,.mv (.tmp 0),none⟩,
            ⟨some 13,.mv (.tmp 5),none⟩,
            ⟨some 14,.idxSl k (.tmp 12) (.tmp 13),none⟩,
            ⟨some 15,.load true k (.tmp 14),none⟩,
            ⟨some 16,.call (.tmp 11) [(.tmp 15)] [],none⟩] [0,1,5,7,8,16] []) <|
         .cond (.tmp 16)
           (.seq (.region [⟨some 17,.mv (.tmp 5),none⟩,
              ⟨some 4,.mv (.tmp 17),none⟩] [4] []) <|
           .ret)
           (.skip))) <|
      .region [⟨some 18,.bin .add (.tmp 8) (.const (.int .i64 (1))),none⟩,
        ⟨some 8,.mv (.tmp 18),none⟩] [0,1,7,8] []))) <|
 .seq (.region [⟨some 4,.mv (.const (.int .i64 (-1))),none⟩] [4] []) <|
 .ret
attribute [local go_sem] reduceIte reduceCtorEq Nat.reduceEqDiff in
theorem aHz (hm:P.follows .mixedOrders=true) {f:FuncId}{fn:Func}{k:Nat}{nt:Nat} (h:l7 P f fn (aGr k)) (hnt:fn.ntmps=nt) (hrs:fn.results.toList=[.tmp 4]) (hna:Nat.ble 2 nt=true)
  (p:α->Bool) (g:FuncId) (caps:List AV) (hcaps:jN caps=true) (hk:∀x,(c x).length=k) (hcb:∀x,jN (c x)=true) {l:List α} (hg:∀x,x∈l->Fn P g [] (.agg (c x)::caps) (.v (.bool (p x))) []) (hl:l.length<=1048576) :
  Fn P f [] [.sl k (E c l),.fn g caps] (.v (.int .i64 (uW p l))) []:=by
 refine h.fn0 hm hnt hrs hna λX=>?_;unfold aGr;simp -dsimp only[go_sem,aG hcaps _ 6];refine aP.intro (rE hm) (λi:{i:Nat // i<=l.length∧(l.take i).all (λx=>!p x)=true}=>⟨[(0,.sl k (E c l)),(1,.fn g caps),(7,.v (.int .i64 l.length)),(8,.v (.int .i64 i.1))],[]⟩) (λi=>l.length-i.1) ⟨0,by simp⟩ ?_ ?_
 .simp[LeL,look]
 .rintro⟨i,hi,hall⟩;simp -dsimp only[go_sem];refine Br.mk (λh1=>?_) λh1=>?_
  .have hlt:i<l.length:=by simpa using h1
   have hw:=aJ hlt hl;have ht:(c l[i]).take k=c l[i]:=Ah (by rw[hk];exact Au _);simp -dsimp only[go_sem,aW hlt,ht,aG (hcb l[i]) _ 6,aG hcaps _ 7];refine⟨⟨by omega,by omega⟩,by rw[hk];exact Au _,?_⟩;refine aA.flat (hg _ (Aa hlt)) rfl ?_;simp -dsimp only[go_sem];refine Br.mk (λh2=>?_) λh2=>?_
   .simp -dsimp only[go_sem];simp[aED hlt hall h2]
   .simp -dsimp only[go_sem,hw];exact⟨⟨i+1,by omega,bH hlt hall (by simpa using h2)⟩,by simp[LeL,look],by simp only;omega⟩
  .have hge:i=l.length:=by
    have:¬i<l.length:=by simpa using h1
    omega
   subst hge;simp -dsimp only[go_sem];have:l.all (λx=>!p x)=true:=by simpa using hall
   simp[aEE this]
def cI (n:Int):List AV:=[.v (.int .i64 n)]
def aGq:aD:=
 .seq (.region [⟨some 4,.mv (.const (.int .i64 (0))),none⟩] [0,1] []) <|
 .seq (.seq (.region [⟨some 6,.mv (.tmp 0),none⟩,
     ⟨some 7,.len (.tmp 6),none⟩,
     ⟨some 8,.mv (.const (.int .i64 (0))),none⟩] [0,1,7,8] []) <|
  .block 0 (
    .loop (
      .seq (.region [⟨some 9,.bin .lss (.tmp 8) (.tmp 7),none⟩] [0,1,7,8,9] []) <|
      .seq (.cond (.tmp 9)
         (.skip)
         (.exit 0)) <|
      .seq (.block 1 (
         .seq (.region [⟨some 10,.mv (.tmp 8),none⟩,
            ⟨some 5,.mv (.tmp 10),none⟩] [0,1,5,7,8] []) <|
         .seq (.region [⟨some 11,.mv (.tmp 1),none⟩,
            ⟨some 12,.mv (.tmp 0),none⟩,
            ⟨some 13,.mv (.tmp 5),none⟩,
            ⟨some 14,.idxSl 1 (.tmp 12) (.tmp 13),none⟩,
            ⟨some 15,.load false 1 (.tmp 14),none⟩,
            ⟨some 16,.call (.tmp 11) [(.tmp 15)] [],none⟩] [0,1,5,7,8,16] []) <|
         .cond (.tmp 16)
           (.seq (.region [⟨some 17,.mv (.tmp 5),none⟩,
              ⟨some 4,.mv (.tmp 17),none⟩] [4] []) <|
           .ret)
           (.skip))) <|
      .region [⟨some 18,.bin .add (.tmp 8) (.const (.int .i64 (1))),none⟩,
        ⟨some 8,.mv (.tmp 18),none⟩] [0,1,7,8] []))) <|
 .seq (.region [⟨some 4,.mv (.const (.int .i64 (-1))),none⟩] [4] []) <|
 .ret
attribute [local go_sem] reduceIte reduceCtorEq Nat.reduceEqDiff in
theorem aHy (hm:P.follows .mixedOrders=true) {f:FuncId}{fn:Func}{nt:Nat} (h:l7 P f fn (aGq)) (hnt:fn.ntmps=nt) (hrs:fn.results.toList=[.tmp 4]) (hna:Nat.ble 2 nt=true)
  (p:Int->Bool) (g:FuncId) (caps:List AV) (hcaps:jN caps=true) {l:List Int} (hg:∀x,x∈l->Fn P g [] (.v (.int .i64 x)::caps) (.v (.bool (p x))) []) (hl:l.length<=1048576) :
  Fn P f [] [.sl 1 (E cI l),.fn g caps] (.v (.int .i64 (uW p l))) []:=by
 refine h.fn0 hm hnt hrs hna λX=>?_;unfold aGq;simp -dsimp only[go_sem,aG hcaps _ 6];refine aP.intro (rE hm) (λi:{i:Nat // i<=l.length∧(l.take i).all (λx=>!p x)=true}=>⟨[(0,.sl 1 (E cI l)),(1,.fn g caps),(7,.v (.int .i64 l.length)),(8,.v (.int .i64 i.1))],[]⟩) (λi=>l.length-i.1) ⟨0,by simp⟩ ?_ ?_
 .simp[LeL,look]
 .rintro⟨i,hi,hall⟩;simp -dsimp only[go_sem];refine Br.mk (λh1=>?_) λh1=>?_
  .have hlt:i<l.length:=by simpa using h1
   have hw:=aJ hlt hl;simp -dsimp only[go_sem,aW hlt,cI,aG hcaps _ 7];refine⟨⟨by omega,by omega⟩,?_⟩;refine aA.flat (hg _ (Aa hlt)) rfl ?_;simp -dsimp only[go_sem];refine Br.mk (λh2=>?_) λh2=>?_
   .simp -dsimp only[go_sem];simp[aED hlt hall h2]
   .simp -dsimp only[go_sem,hw];exact⟨⟨i+1,by omega,bH hlt hall (by simpa using h2)⟩,by simp[LeL,look],by simp only;omega⟩
  .have hge:i=l.length:=by
    have:¬i<l.length:=by simpa using h1
    omega
   subst hge;simp -dsimp only[go_sem];have:l.all (λx=>!p x)=true:=by simpa using hall
   simp[aEE this]
def aIU (g:FuncId):aD:=
 .seq (.region [⟨some 4,.mv (.const (.bool false)),none⟩] [0,1] []) <|
 .seq (.region [⟨some 5,.mv (.tmp 0),none⟩,
    ⟨some 6,.mv (.tmp 1),none⟩,
    ⟨some 7,.call (.func g) [(.tmp 5),(.tmp 6)] [],none⟩,
    ⟨some 8,.bin .geq (.tmp 7) (.const (.int .i64 (0))),none⟩,
    ⟨some 4,.mv (.tmp 8),none⟩] [4] []) <|
 .ret
attribute [local go_sem] reduceIte reduceCtorEq Nat.reduceEqDiff in
theorem aGJ (M:P.follows .mixedOrders=true) {f:FuncId}{fn:Func}{g:FuncId}{nt:Nat} (h:l7 P f fn (aIU g)) (H:fn.ntmps=nt) (I:fn.results.toList=[.tmp 4]) (G:Nat.ble 2 nt=true)
  (p:α->Bool) (q:FuncId) (caps:List AV) (F:jN caps=true) {k:Nat}{l:List α} (J:Fn P g [] [.sl k (E c l),.fn q caps] (.v (.int .i64 (uW p l))) []) :
  Fn P f [] [.sl k (E c l),.fn q caps] (.v (.bool (l.any p))) []:=by
 refine h.fn0 M H I G λX=>?_;unfold aIU;simp -dsimp only[go_sem,aG F _ 6,aG F _ 7];refine aA.flat J rfl ?_;simp -dsimp only[go_sem];simp[←aLA]
end
section
variable [Envs]
variable {P:Program}
attribute [local irreducible] Fn
theorem dI {l:List Int}{i:Nat} (h:i<l.length):((E cI l).getD i [])=[.v (.int .i64 l[i])]:=aW h
end
end Go.Vs
