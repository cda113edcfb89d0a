/- Lists of numbers: size, copy, comparison. -/
import Derived.Test.YtmiiohemehacjaaGreatDoorVtF
set_option linter.all false
set_option maxHeartbeats 8000000
namespace Go.Vs
section
variable [Envs]
variable {P:Program}{α:Type}{c:α->List AV}
attribute [local irreducible] Fn
def aFa (k:Nat) (g:FuncId):aF:=
 .seq (.region [⟨some 4,.mv (.const (.int .i64 (0))),none⟩] [0,1] []) <|
 .seq (.region [⟨some 6,.mv (.tmp 1),none⟩,
    ⟨some 7,.mv (.tmp 0),none⟩,
    ⟨some 8,.len (.tmp 7),none⟩,
    ⟨some 9,.bin .sub (.tmp 6) (.tmp 8),none⟩,
    ⟨some 1,.mv (.tmp 9),none⟩] [0,1] []) <|
 .seq (.seq (.region [⟨some 10,.mv (.tmp 1),none⟩,
     ⟨some 11,.bin .lss (.tmp 10) (.const (.int .i64 (0))),none⟩] [0,1,11] []) <|
  .cond (.tmp 11)
    (.seq (.region [⟨some 4,.mv (.const (.int .i64 (-1))),none⟩] [4] []) <|
    .ret)
    (.skip)) <|
 .seq (.seq (.region [⟨some 5,.mv (.const (.int .i64 (0))),none⟩] [0,1,5] []) <|
  .block 0 (
    .loop (
      .seq (.seq (.region [⟨some 12,.mv (.tmp 5),none⟩,
          ⟨some 13,.mv (.tmp 0),none⟩,
          ⟨some 14,.len (.tmp 13),none⟩,
          ⟨some 15,.bin .lss (.tmp 12) (.tmp 14),none⟩] [0,1,5,15] []) <|
       .cond (.tmp 15)
         (.skip)
         (.exit 0)) <|
      .seq (.block 1 (
         .seq (.region [⟨some 18,.mv (.tmp 0),none⟩,
            ⟨some 19,.mv (.tmp 5),none⟩,
            ⟨some 20,.idxSl k (.tmp 18) (.tmp 19),none⟩,
            ⟨some 21,.load true k (.tmp 20),none⟩,
            ⟨some 22,.mv (.tmp 1),none⟩,
            ⟨some 23,.call (.func g) [(.tmp 21),(.tmp 22)] [],none⟩,
            ⟨some 1,.mv (.tmp 23),none⟩] [0,1,5] []) <|
         .seq (.region [⟨some 24,.mv (.tmp 1),none⟩,
            ⟨some 25,.bin .lss (.tmp 24) (.const (.int .i64 (0))),none⟩] [0,1,5,25] []) <|
         .cond (.tmp 25)
           (.seq (.region [⟨some 4,.mv (.const (.int .i64 (-1))),none⟩] [4] []) <|
           .ret)
           (.skip))) <|
      .region [⟨some 16,.mv (.tmp 5),none⟩,
        ⟨some 17,.bin .add (.tmp 16) (.const (.int .i64 (1))),none⟩,
        ⟨some 5,.mv (.tmp 17),none⟩] [0,1,5] []))) <|
 .seq (.region [⟨some 26,.mv (.tmp 1),none⟩,
    ⟨some 4,.mv (.tmp 26),none⟩] [4] []) <|
 .ret
attribute [local go_sem] reduceIte reduceCtorEq Nat.reduceEqDiff in
theorem aGB (hm:P.follows .mixedOrders=true) {f:FuncId}{fn:Func}{k:Nat}{g:FuncId}{nt:Nat} (h:bW P f fn (aFa k g)) (hnt:fn.ntmps=nt) (hrs:fn.results.toList=[.tmp 4]) (hna:Nat.ble 2 nt=true)
  (φ:α->Int->Int) (hk:∀x,(c x).length=k) (hcb:∀x,dG (c x)=true) {l:List α} (hg:∀x,x∈l->∀n,0<=n->n<=1048576->Fn P g [] [.agg (c x),.v (.int .i64 n)] (.v (.int .i64 (φ x n))) []) (hφ:∀x,x∈l->∀n,0<=n->n<=1048576->0<=φ x n->φ x n<=n) (n:Int) (hl:l.length<2 ^ 63) (hn:0<=n∧n<=1048576) :
  Fn P f [] [.sl k (E c l),.v (.int .i64 n)] (.v (.int .i64 (szL φ l n))) []:=by
 refine h.fn0 hm hnt hrs hna λX=>?_;unfold aFa;simp -dsimp only[go_sem];refine Br.mk (λh0=>?_) λh0=>?_
 .simp -dsimp only[go_sem];simp only[decide_eq_true_eq] at h0;simp[szL,h0]
 .simp -dsimp only[go_sem];simp only[decide_eq_false_iff_not] at h0;have hW:=h0;rw[aO (by omega) (by omega)] at hW
  refine aN.intro (bZ hm) (λx:{p:Nat×Int // p.1<=l.length∧(0<=p.2∧p.2<=1048576)∧vX φ (l.drop p.1) p.2=szL φ l n}=>⟨[(0,.sl k (E c l)),(1,.v (.int .i64 x.1.2)),(5,.v (.int .i64 x.1.1))],[]⟩) (λx=>l.length-x.1.1)
   ⟨(0,IntKind.i64.wrap (n-l.length)),by simp,⟨by omega,by rw[aO (by omega) (by omega)];omega⟩,by simp[szL,h0]⟩ ?_ ?_
  .simp[LeL,look]
  .rintro⟨⟨i,m⟩,hi,hm',hP⟩;simp only at hi hm' hP;simp -dsimp only[go_sem];refine Br.mk (λh1=>?_) λh1=>?_
   .have hlt:i<l.length:=by simpa using h1
    have hw:=aH hlt (by omega);simp -dsimp only[go_sem,aQ hlt];refine⟨⟨by omega,by omega⟩,by rw[hk];exact Nat.le_refl _,?_⟩;have ht:(c l[i]).take k=c l[i]:=List.take_of_length_le (by rw[hk];exact Nat.le_refl _);simp -dsimp only[go_sem,ht,aG (hcb l[i]) _ 6];refine aD.flat (hg _ (List.getElem_mem hlt) _ hm'.1 hm'.2) rfl ?_;simp -dsimp only[go_sem];rw[aDF φ m hlt] at hP;refine Br.mk (λh2=>?_) λh2=>?_
    .simp -dsimp only[go_sem];simp only[decide_eq_true_eq] at h2;rw[if_pos h2] at hP;simp[←hP]
    .simp -dsimp only[go_sem,hw];simp only[decide_eq_false_iff_not] at h2;rw[if_neg h2] at hP;have hle:=hφ l[i] (List.getElem_mem hlt) m hm'.1 hm'.2 (by omega);exact⟨⟨(i+1,φ l[i] m),by simp only;omega,by simp only;omega,hP⟩,by simp[LeL,look],by simp only;omega⟩
   .have hge:i=l.length:=by
     have:¬i<l.length:=by simpa using h1
     omega
    subst hge;simp -dsimp only[go_sem];rw[aFe] at hP;simp[hP]
def aAd (k y:Nat) (z:List AV) (g:FuncId):aF:=
 .seq (.region [⟨some 2,.mv (.const (.slice none 0 0)),none⟩] [0] []) <|
 .seq (.region [⟨some 5,.mv (.tmp 0),none⟩,
    ⟨some 6,.len (.tmp 5),none⟩,
    ⟨some 7,.mk k y z (.tmp 6),none⟩,
    ⟨some 3,.mv (.tmp 7),none⟩] [0,3] []) <|
 .seq (.seq (.region [⟨some 4,.mv (.const (.int .i64 (0))),none⟩] [0,3,4] []) <|
  .block 0 (
    .loop (
      .seq (.seq (.region [⟨some 8,.mv (.tmp 4),none⟩,
          ⟨some 9,.mv (.tmp 0),none⟩,
          ⟨some 10,.len (.tmp 9),none⟩,
          ⟨some 11,.bin .lss (.tmp 8) (.tmp 10),none⟩] [0,3,4,11] []) <|
       .cond (.tmp 11)
         (.skip)
         (.exit 0)) <|
      .seq (.block 1 (
         .region [⟨some 14,.mv (.tmp 3),none⟩,
           ⟨some 15,.mv (.tmp 4),none⟩,
           ⟨some 16,.mv (.tmp 0),none⟩,
           ⟨some 17,.mv (.tmp 4),none⟩,
           ⟨some 18,.idxSl k (.tmp 16) (.tmp 17),none⟩,
           ⟨some 19,.load true k (.tmp 18),none⟩,
           ⟨some 20,.call (.func g) [(.tmp 19)] [],none⟩,
           ⟨some 21,.idxSl k (.tmp 14) (.tmp 15),none⟩,
           ⟨none,.store k (.tmp 21) (.tmp 20),none⟩] [0,3,4] [])) <|
      .region [⟨some 12,.mv (.tmp 4),none⟩,
        ⟨some 13,.bin .add (.tmp 12) (.const (.int .i64 (1))),none⟩,
        ⟨some 4,.mv (.tmp 13),none⟩] [0,3,4] []))) <|
 .seq (.region [⟨some 22,.mv (.tmp 3),none⟩,
    ⟨some 2,.mv (.tmp 22),none⟩] [2] []) <|
 .ret
attribute [local go_sem] reduceIte reduceCtorEq Nat.reduceEqDiff in
theorem aGy (hm:P.follows .mixedOrders=true) {f:FuncId}{fn:Func}{k y:Nat}{z:List AV}{g:FuncId}{nt:Nat} (h:bW P f fn (aAd k y z g)) (hnt:fn.ntmps=nt) (hrs:fn.results.toList=[.tmp 2]) (hna:Nat.ble 1 nt=true)
  (hk:∀x,(c x).length=k) (hk0:0<k) (hz:z.length=k) (hzz:aHv z=true) (hcb:∀x,dG (c x)=true) {l:List α} (hg:∀x,x∈l->Fn P g [] [.agg (c x)] (.agg (c x)) []) (hl:l.length<=1048576) (hy:y<=1024) :
  Fn P f [] [.sl k (E c l)] (.sl k (E c l)) []:=by
 refine h.fn0 hm hnt hrs hna λX=>?_;unfold aAd;simp -dsimp only[go_sem]
 have hly:(l.length:Int)*(y:Int)<=2 ^ 47:=by
  have h1:l.length*y<=1048576*1024:=Nat.mul_le_mul hl hy;have h2:((l.length*y:Nat):Int)<=((1048576*1024:Nat):Int):=Int.ofNat_le.2 h1;rw[Int.natCast_mul] at h2;omega
 refine⟨⟨by omega,hly,by omega,hz,by have:=aCk hzz (λ_=>none);simpa -dsimp only[go_sem] using this⟩,?_⟩
 refine aN.intro (bZ hm) (λi:{i:Nat // i<=l.length}=>⟨[(0,.sl k (E c l)),(3,.loc (.t 7 0) 0 l.length),(4,.v (.int .i64 i.1))],
   [(.t 7 0,.arr k (E c (l.take i.1)++List.replicate (l.length-i.1) z) false)]⟩) (λi=>l.length-i.1) ⟨0,by omega⟩ ?_ ?_
 .simp[LeL,look,aB,E]
 .rintro⟨i,hi⟩;simp -dsimp only[go_sem];refine Br.mk (λh1=>?_) λh1=>?_
  .have hlt:i<l.length:=by simpa using h1
   have hw:=aH hlt hl;have ht:(c l[i]).take k=c l[i]:=List.take_of_length_le (by rw[hk];exact Nat.le_refl _);simp -dsimp only[go_sem,aQ hlt,ht,aG (hcb l[i]) _ 6];refine⟨⟨by omega,by omega⟩,by rw[hk];exact Nat.le_refl _,?_⟩;refine aD.pure (hg _ (List.getElem_mem hlt)) ?_;simp -dsimp only[go_sem,aFq (hcb l[i]),aDn hlt,aIt (hcb l[i])];refine⟨⟨by omega,by omega⟩,⟨hk0,hk _,by rw[hz];exact Nat.le_refl _,aEa (hcb _)⟩,?_⟩;have e:=aGt (c:=c) hlt (x:=lay z 0 (c l[i])) (aBb (by rw[hz,hk])) z;simp -dsimp only[go_sem,hw,e];exact⟨⟨i+1,by omega⟩,by simp[LeL,look,aB],by simp only;omega⟩
  .have hge:i=l.length:=by
    have:¬i<l.length:=by simpa using h1
    omega
   subst hge;simp -dsimp only[go_sem,aGu];simp
end
section
variable [Envs]
variable {P:Program}{α:Type}{c:α->List AV}
attribute [local irreducible] Fn
def aF6 (k:Nat) (g:FuncId):aF:=
 .seq (.region [⟨some 4,.mv (.const (.bool false)),none⟩] [0,1] []) <|
 .seq (.seq (.region [⟨some 6,.mv (.tmp 0),none⟩,
     ⟨some 7,.len (.tmp 6),none⟩,
     ⟨some 8,.mv (.tmp 1),none⟩,
     ⟨some 9,.len (.tmp 8),none⟩,
     ⟨some 10,.bin .neq (.tmp 7) (.tmp 9),none⟩] [0,1,10] []) <|
  .cond (.tmp 10)
    (.seq (.region [⟨some 4,.mv (.const (.bool false)),none⟩] [4] []) <|
    .ret)
    (.skip)) <|
 .seq (.seq (.region [⟨some 5,.mv (.const (.int .i64 (0))),none⟩] [0,1,5] []) <|
  .block 0 (
    .loop (
      .seq (.seq (.region [⟨some 11,.mv (.tmp 5),none⟩,
          ⟨some 12,.mv (.tmp 0),none⟩,
          ⟨some 13,.len (.tmp 12),none⟩,
          ⟨some 14,.bin .lss (.tmp 11) (.tmp 13),none⟩] [0,1,5,14] []) <|
       .cond (.tmp 14)
         (.skip)
         (.exit 0)) <|
      .seq (.block 1 (
         .seq (.region [⟨some 17,.mv (.tmp 0),none⟩,
            ⟨some 18,.mv (.tmp 5),none⟩,
            ⟨some 19,.idxSl k (.tmp 17) (.tmp 18),none⟩,
            ⟨some 20,.load true k (.tmp 19),none⟩,
            ⟨some 21,.mv (.tmp 1),none⟩,
            ⟨some 22,.mv (.tmp 5),none⟩,
            ⟨some 23,.idxSl k (.tmp 21) (.tmp 22),none⟩,
            ⟨some 24,.load true k (.tmp 23),none⟩,
            ⟨some 25,.call (.func g) [(.tmp 20),(.tmp 24)] [],none⟩,
            ⟨some 26,.un .not (.tmp 25),none⟩] [0,1,5,26] [17,18,20,21,19,22,23,24,25,26]) <|
         .cond (.tmp 26)
           (.seq (.region [⟨some 4,.mv (.const (.bool false)),none⟩] [4] []) <|
           .ret)
           (.skip))) <|
      .region [⟨some 15,.mv (.tmp 5),none⟩,
        ⟨some 16,.bin .add (.tmp 15) (.const (.int .i64 (1))),none⟩,
        ⟨some 5,.mv (.tmp 16),none⟩] [0,1,5] []))) <|
 .seq (.region [⟨some 4,.mv (.const (.bool true)),none⟩] [4] []) <|
 .ret
attribute [local go_sem] reduceIte reduceCtorEq Nat.reduceEqDiff in
theorem aET (hm:P.follows .mixedOrders=true) {f:FuncId}{fn:Func}{k:Nat}{g:FuncId}{nt:Nat} (h:bW P f fn (aF6 k g)) (hnt:fn.ntmps=nt) (hrs:fn.results.toList=[.tmp 4]) (hna:Nat.ble 2 nt=true)
  (hk:∀x,(c x).length=k) (hcb:∀x,dG (c x)=true) {l:List α} (hg:∀x,x∈l->Fn P g [] [.agg (c x),.agg (c x)] (.v (.bool true)) []) (hl:l.length<=1048576) :
  Fn P f [] [.sl k (E c l),.sl k (E c l)] (.v (.bool true)) []:=by
 refine h.fn0 hm hnt hrs hna λX=>?_;unfold aF6;simp -dsimp only[go_sem];refine aN.intro (bZ hm) (λi:{i:Nat // i<=l.length}=>⟨[(0,.sl k (E c l)),(1,.sl k (E c l)),(5,.v (.int .i64 i.1))],[]⟩) (λi=>l.length-i.1) ⟨0,by omega⟩ ?_ ?_
 .simp[LeL,look]
 .rintro⟨i,hi⟩;simp -dsimp only[go_sem];refine Br.mk (λh1=>?_) λh1=>?_
  .have hlt:i<l.length:=by simpa using h1
   have hw:=aH hlt hl;have ht:(c l[i]).take k=c l[i]:=List.take_of_length_le (by rw[hk];exact Nat.le_refl _);simp -dsimp only[go_sem];refine RgK.mk rfl ?_;simp -dsimp only[go_sem,aQ hlt,ht,aG (hcb l[i]) _ 6];refine⟨⟨by omega,by omega⟩,by rw[hk];exact Nat.le_refl _,⟨by omega,by omega⟩,by rw[hk];exact Nat.le_refl _,?_⟩;refine aD.flat (hg _ (List.getElem_mem hlt)) rfl ?_;simp -dsimp only[go_sem,hw];exact⟨⟨i+1,by omega⟩,by simp[LeL,look],by simp only;omega⟩
  .simp -dsimp only[go_sem];simp
end
section
variable [Envs]
variable {P:Program}{α:Type}{c:α->List AV}
attribute [local irreducible] Fn
def uH (p:α->Bool) (l:List α):Int:=match l.findIdx? p with|some i=>i|none=>-1
theorem aDZ {p:α->Bool}{l:List α} (h:l.all (λx=>!p x)=true):uH p l=-1:=by
 have:l.findIdx? p=none:=by
  rw[List.findIdx?_eq_none_iff];intro x F;simpa using List.all_eq_true.1 h x F
 simp[uH,this]
theorem aDY {p:α->Bool}{l:List α}{i:Nat} (hi:i<l.length) (h:(l.take i).all (λx=>!p x)=true) (F:p l[i]=true):uH p l=i:=by
 have:l.findIdx? p=some i:=by
  rw[List.findIdx?_eq_some_iff_getElem];refine⟨hi,F,λj H=>?_⟩
  have:=List.all_eq_true.1 h l[j] (by
    rw[List.mem_take_iff_getElem];exact⟨j,by omega,rfl⟩)
  simpa using this
 simp[uH,this]
theorem aKC (p:α->Bool) (l:List α):decide (uH p l≥0)=l.any p:=by
 unfold uH;cases h:l.findIdx? p with
 | none =>
  rw[List.findIdx?_eq_none_iff] at h
  have:l.any p=false:=by
   rw[List.any_eq_false];intro x H;simp[h x H]
  simp[this]
 | some i =>
  rw[List.findIdx?_eq_some_iff_getElem] at h;obtain⟨hi,F,_⟩:=h;have:l.any p=true:=List.any_eq_true.2 ⟨l[i],List.getElem_mem hi,F⟩;simp[this]
def aFT (k:Nat):aF:=
 .seq (.region [⟨some 4,.mv (.const (.int .i64 (0))),none⟩] [0,1] []) <|
 .seq (.seq (.region [⟨some 6,.mv (.tmp 0),none⟩,
     ⟨some 7,.len (.tmp 6),none⟩,
     ⟨some 8,.mv (.const (.int .i64 (0))),none⟩] [0,1,7,8] []) <|
  .block 0 (
    .loop (
      .seq (.region [⟨some 9,.bin .lss (.tmp 8) (.tmp 7),none⟩] [0,1,7,8,9] []) <|
      .seq (.cond (.tmp 9)
         (.skip)
         (.exit 0)) <|
      .seq (.block 1 (
         .seq (.region [⟨some 10,.mv (.tmp 8),none⟩,
            ⟨some 5,.mv (.tmp 10),none⟩] [0,1,5,7,8] []) <|
         .seq (.region [⟨some 11,.mv (.tmp 1),none⟩,
            ⟨some 12,.mv (.tmp 0),none⟩,
            ⟨some 13,.mv (.tmp 5),none⟩,
            ⟨some 14,.idxSl k (.tmp 12) (.tmp 13),none⟩,
            ⟨some 15,.load true k (.tmp 14),none⟩,
            ⟨some 16,.call (.tmp 11) [(.tmp 15)] [],none⟩] [0,1,5,7,8,16] []) <|
         .cond (.tmp 16)
           (.seq (.region [⟨some 17,.mv (.tmp 5),none⟩,
              ⟨some 4,.mv (.tmp 17),none⟩] [4] []) <|
           .ret)
           (.skip))) <|
      .region [⟨some 18,.bin .add (.tmp 8) (.const (.int .i64 (1))),none⟩,
        ⟨some 8,.mv (.tmp 18),none⟩] [0,1,7,8] []))) <|
 .seq (.region [⟨some 4,.mv (.const (.int .i64 (-1))),none⟩] [4] []) <|
 .ret
attribute [local go_sem] reduceIte reduceCtorEq Nat.reduceEqDiff in
theorem aG3 (hm:P.follows .mixedOrders=true) {f:FuncId}{fn:Func}{k:Nat}{nt:Nat} (h:bW P f fn (aFT k)) (hnt:fn.ntmps=nt) (hrs:fn.results.toList=[.tmp 4]) (hna:Nat.ble 2 nt=true)
  (p:α->Bool) (g:FuncId) (caps:List AV) (hcaps:dG caps=true) (hk:∀x,(c x).length=k) (hcb:∀x,dG (c x)=true) {l:List α} (hg:∀x,x∈l->Fn P g [] (.agg (c x)::caps) (.v (.bool (p x))) []) (hl:l.length<=1048576) :
  Fn P f [] [.sl k (E c l),.fn g caps] (.v (.int .i64 (uH p l))) []:=by
 refine h.fn0 hm hnt hrs hna λX=>?_;unfold aFT;simp -dsimp only[go_sem,aG hcaps _ 6];refine aN.intro (bZ hm) (λi:{i:Nat // i<=l.length∧(l.take i).all (λx=>!p x)=true}=>⟨[(0,.sl k (E c l)),(1,.fn g caps),(7,.v (.int .i64 l.length)),(8,.v (.int .i64 i.1))],[]⟩) (λi=>l.length-i.1) ⟨0,by simp⟩ ?_ ?_
 .simp[LeL,look]
 .rintro⟨i,hi,hall⟩;simp -dsimp only[go_sem];refine Br.mk (λh1=>?_) λh1=>?_
  .have hlt:i<l.length:=by simpa using h1
   have hw:=aH hlt hl;have ht:(c l[i]).take k=c l[i]:=List.take_of_length_le (by rw[hk];exact Nat.le_refl _);simp -dsimp only[go_sem,aQ hlt,ht,aG (hcb l[i]) _ 6,aG hcaps _ 7];refine⟨⟨by omega,by omega⟩,by rw[hk];exact Nat.le_refl _,?_⟩;refine aD.flat (hg _ (List.getElem_mem hlt)) rfl ?_;simp -dsimp only[go_sem];refine Br.mk (λh2=>?_) λh2=>?_
   .simp -dsimp only[go_sem];simp[aDY hlt hall h2]
   .simp -dsimp only[go_sem,hw];exact⟨⟨i+1,by omega,aX hlt hall (by simpa using h2)⟩,by simp[LeL,look],by simp only;omega⟩
  .have hge:i=l.length:=by
    have:¬i<l.length:=by simpa using h1
    omega
   subst hge;simp -dsimp only[go_sem];have:l.all (λx=>!p x)=true:=by simpa using hall
   simp[aDZ this]
def cI (n:Int):List AV:=[.v (.int .i64 n)]
def aFS:aF:=
 .seq (.region [⟨some 4,.mv (.const (.int .i64 (0))),none⟩] [0,1] []) <|
 .seq (.seq (.region [⟨some 6,.mv (.tmp 0),none⟩,
     ⟨some 7,.len (.tmp 6),none⟩,
     ⟨some 8,.mv (.const (.int .i64 (0))),none⟩] [0,1,7,8] []) <|
  .block 0 (
    .loop (
      .seq (.region [⟨some 9,.bin .lss (.tmp 8) (.tmp 7),none⟩] [0,1,7,8,9] []) <|
      .seq (.cond (.tmp 9)
         (.skip)
         (.exit 0)) <|
      .seq (.block 1 (
         .seq (.region [⟨some 10,.mv (.tmp 8),none⟩,
            ⟨some 5,.mv (.tmp 10),none⟩] [0,1,5,7,8] []) <|
         .seq (.region [⟨some 11,.mv (.tmp 1),none⟩,
            ⟨some 12,.mv (.tmp 0),none⟩,
            ⟨some 13,.mv (.tmp 5),none⟩,
            ⟨some 14,.idxSl 1 (.tmp 12) (.tmp 13),none⟩,
            ⟨some 15,.load false 1 (.tmp 14),none⟩,
            ⟨some 16,.call (.tmp 11) [(.tmp 15)] [],none⟩] [0,1,5,7,8,16] []) <|
         .cond (.tmp 16)
           (.seq (.region [⟨some 17,.mv (.tmp 5),none⟩,
              ⟨some 4,.mv (.tmp 17),none⟩] [4] []) <|
           .ret)
           (.skip))) <|
      .region [⟨some 18,.bin .add (.tmp 8) (.const (.int .i64 (1))),none⟩,
        ⟨some 8,.mv (.tmp 18),none⟩] [0,1,7,8] []))) <|
 .seq (.region [⟨some 4,.mv (.const (.int .i64 (-1))),none⟩] [4] []) <|
 .ret
attribute [local go_sem] reduceIte reduceCtorEq Nat.reduceEqDiff in
theorem aG2 (hm:P.follows .mixedOrders=true) {f:FuncId}{fn:Func}{nt:Nat} (h:bW P f fn (aFS)) (hnt:fn.ntmps=nt) (hrs:fn.results.toList=[.tmp 4]) (hna:Nat.ble 2 nt=true)
  (p:Int->Bool) (g:FuncId) (caps:List AV) (hcaps:dG caps=true) {l:List Int} (hg:∀x,x∈l->Fn P g [] (.v (.int .i64 x)::caps) (.v (.bool (p x))) []) (hl:l.length<=1048576) :
  Fn P f [] [.sl 1 (E cI l),.fn g caps] (.v (.int .i64 (uH p l))) []:=by
 refine h.fn0 hm hnt hrs hna λX=>?_;unfold aFS;simp -dsimp only[go_sem,aG hcaps _ 6];refine aN.intro (bZ hm) (λi:{i:Nat // i<=l.length∧(l.take i).all (λx=>!p x)=true}=>⟨[(0,.sl 1 (E cI l)),(1,.fn g caps),(7,.v (.int .i64 l.length)),(8,.v (.int .i64 i.1))],[]⟩) (λi=>l.length-i.1) ⟨0,by simp⟩ ?_ ?_
 .simp[LeL,look]
 .rintro⟨i,hi,hall⟩;simp -dsimp only[go_sem];refine Br.mk (λh1=>?_) λh1=>?_
  .have hlt:i<l.length:=by simpa using h1
   have hw:=aH hlt hl;simp -dsimp only[go_sem,aQ hlt,cI,aG hcaps _ 7];refine⟨⟨by omega,by omega⟩,?_⟩;refine aD.flat (hg _ (List.getElem_mem hlt)) rfl ?_;simp -dsimp only[go_sem];refine Br.mk (λh2=>?_) λh2=>?_
   .simp -dsimp only[go_sem];simp[aDY hlt hall h2]
   .simp -dsimp only[go_sem,hw];exact⟨⟨i+1,by omega,aX hlt hall (by simpa using h2)⟩,by simp[LeL,look],by simp only;omega⟩
  .have hge:i=l.length:=by
    have:¬i<l.length:=by simpa using h1
    omega
   subst hge;simp -dsimp only[go_sem];have:l.all (λx=>!p x)=true:=by simpa using hall
   simp[aDZ this]
def aIj (g:FuncId):aF:=
 .seq (.region [⟨some 4,.mv (.const (.bool false)),none⟩] [0,1] []) <|
 .seq (.region [⟨some 5,.mv (.tmp 0),none⟩,
    ⟨some 6,.mv (.tmp 1),none⟩,
    ⟨some 7,.call (.func g) [(.tmp 5),(.tmp 6)] [],none⟩,
    ⟨some 8,.bin .geq (.tmp 7) (.const (.int .i64 (0))),none⟩,
    ⟨some 4,.mv (.tmp 8),none⟩] [4] []) <|
 .ret
attribute [local go_sem] reduceIte reduceCtorEq Nat.reduceEqDiff in
theorem aGe (O:P.follows .mixedOrders=true) {f:FuncId}{fn:Func}{g:FuncId}{nt:Nat} (h:bW P f fn (aIj g)) (I:fn.ntmps=nt) (J:fn.results.toList=[.tmp 4]) (H:Nat.ble 2 nt=true)
  (p:α->Bool) (q:FuncId) (caps:List AV) (F:dG caps=true) {k:Nat}{l:List α} (L:Fn P g [] [.sl k (E c l),.fn q caps] (.v (.int .i64 (uH p l))) []) :
  Fn P f [] [.sl k (E c l),.fn q caps] (.v (.bool (l.any p))) []:=by
 refine h.fn0 O I J H λX=>?_;unfold aIj;simp -dsimp only[go_sem,aG F _ 6,aG F _ 7];refine aD.flat L rfl ?_;simp -dsimp only[go_sem];simp[←aKC]
end
section
variable [Envs]
variable {P:Program}
attribute [local irreducible] Fn
theorem bY {l:List Int}{i:Nat} (h:i<l.length):((E cI l).getD i [])=[.v (.int .i64 l[i])]:=aQ h
def aFc:aF:=
 .seq (.region [⟨some 4,.mv (.const (.int .i64 (0))),none⟩] [0,1] []) <|
 .seq (.region [⟨some 5,.mv (.tmp 1),none⟩,
    ⟨some 6,.mv (.tmp 0),none⟩,
    ⟨some 7,.len (.tmp 6),none⟩,
    ⟨some 8,.bin .sub (.tmp 5) (.tmp 7),none⟩,
    ⟨some 1,.mv (.tmp 8),none⟩] [1] []) <|
 .seq (.seq (.region [⟨some 9,.mv (.tmp 1),none⟩,
     ⟨some 10,.bin .lss (.tmp 9) (.const (.int .i64 (0))),none⟩] [1,10] []) <|
  .cond (.tmp 10)
    (.seq (.region [⟨some 4,.mv (.const (.int .i64 (-1))),none⟩] [4] []) <|
    .ret)
    (.skip)) <|
 .seq (.region [⟨some 11,.mv (.tmp 1),none⟩,
    ⟨some 4,.mv (.tmp 11),none⟩] [4] []) <|
 .ret
def aAe:aF:=
 .seq (.region [⟨some 2,.mv (.const (.slice none 0 0)),none⟩] [0] []) <|
 .seq (.region [⟨some 5,.mv (.tmp 0),none⟩,
    ⟨some 6,.len (.tmp 5),none⟩,
    ⟨some 7,.mk 1 8 [.v (.int .i64 (0))] (.tmp 6),none⟩,
    ⟨some 3,.mv (.tmp 7),none⟩] [0,3] []) <|
 .seq (.seq (.region [⟨some 4,.mv (.const (.int .i64 (0))),none⟩] [0,3,4] []) <|
  .block 0 (
    .loop (
      .seq (.seq (.region [⟨some 8,.mv (.tmp 4),none⟩,
          ⟨some 9,.mv (.tmp 0),none⟩,
          ⟨some 10,.len (.tmp 9),none⟩,
          ⟨some 11,.bin .lss (.tmp 8) (.tmp 10),none⟩] [0,3,4,11] []) <|
       .cond (.tmp 11)
         (.skip)
         (.exit 0)) <|
      .seq (.block 1 (
         .region [⟨some 14,.mv (.tmp 3),none⟩,
           ⟨some 15,.mv (.tmp 4),none⟩,
           ⟨some 16,.mv (.tmp 0),none⟩,
           ⟨some 17,.mv (.tmp 4),none⟩,
           ⟨some 18,.idxSl 1 (.tmp 16) (.tmp 17),none⟩,
           ⟨some 19,.load false 1 (.tmp 18),none⟩,
           ⟨some 20,.idxSl 1 (.tmp 14) (.tmp 15),none⟩,
           ⟨none,.store 1 (.tmp 20) (.tmp 19),none⟩] [0,3,4] [])) <|
      .region [⟨some 12,.mv (.tmp 4),none⟩,
        ⟨some 13,.bin .add (.tmp 12) (.const (.int .i64 (1))),none⟩,
        ⟨some 4,.mv (.tmp 13),none⟩] [0,3,4] []))) <|
 .seq (.region [⟨some 21,.mv (.tmp 3),none⟩,
    ⟨some 2,.mv (.tmp 21),none⟩] [2] []) <|
 .ret
def aF9:aF:=
 .seq (.region [⟨some 4,.mv (.const (.bool false)),none⟩] [0,1] []) <|
 .seq (.seq (.region [⟨some 6,.mv (.tmp 0),none⟩,
     ⟨some 7,.len (.tmp 6),none⟩,
     ⟨some 8,.mv (.tmp 1),none⟩,
     ⟨some 9,.len (.tmp 8),none⟩,
     ⟨some 10,.bin .neq (.tmp 7) (.tmp 9),none⟩] [0,1,10] []) <|
  .cond (.tmp 10)
    (.seq (.region [⟨some 4,.mv (.const (.bool false)),none⟩] [4] []) <|
    .ret)
    (.skip)) <|
 .seq (.seq (.region [⟨some 5,.mv (.const (.int .i64 (0))),none⟩] [0,1,5] []) <|
  .block 0 (
    .loop (
      .seq (.seq (.region [⟨some 11,.mv (.tmp 5),none⟩,
          ⟨some 12,.mv (.tmp 0),none⟩,
          ⟨some 13,.len (.tmp 12),none⟩,
          ⟨some 14,.bin .lss (.tmp 11) (.tmp 13),none⟩] [0,1,5,14] []) <|
       .cond (.tmp 14)
         (.skip)
         (.exit 0)) <|
      .seq (.block 1 (
         .seq (.region [⟨some 17,.mv (.tmp 0),none⟩,
            ⟨some 18,.mv (.tmp 5),none⟩,
            ⟨some 19,.idxSl 1 (.tmp 17) (.tmp 18),none⟩,
            ⟨some 20,.load false 1 (.tmp 19),none⟩,
            ⟨some 21,.mv (.tmp 1),none⟩,
            ⟨some 22,.mv (.tmp 5),none⟩,
            ⟨some 23,.idxSl 1 (.tmp 21) (.tmp 22),none⟩,
            ⟨some 24,.load false 1 (.tmp 23),none⟩,
            ⟨some 25,.bin .neq (.tmp 20) (.tmp 24),none⟩] [0,1,5,25] [17,18,20,21,19,22,23,24,25]) <|
         .cond (.tmp 25)
           (.seq (.region [⟨some 4,.mv (.const (.bool false)),none⟩] [4] []) <|
           .ret)
           (.skip))) <|
      .region [⟨some 15,.mv (.tmp 5),none⟩,
        ⟨some 16,.bin .add (.tmp 15) (.const (.int .i64 (1))),none⟩,
        ⟨some 5,.mv (.tmp 16),none⟩] [0,1,5] []))) <|
 .seq (.region [⟨some 4,.mv (.const (.bool true)),none⟩] [4] []) <|
 .ret
def szI (l:List Int) (n:Int):Int:=if IntKind.i64.wrap (n-l.length)<0 then -1 else IntKind.i64.wrap (n-l.length)
theorem aGD {l:List Int}{n:Int} (I:l.length<2 ^ 63) (H:0<=n) (J:n<=1048576) (h:0<=szI l n):szI l n<=n∧(l.length:Int)<=n:=by
 unfold szI at h⊢;split
 .rename_i F;rw[if_pos F] at h;omega
 .rename_i F;rw[aO (by omega) (by omega)] at F⊢;omega
attribute [local go_sem] reduceIte reduceCtorEq Nat.reduceEqDiff in
theorem aM0 (L:P.follows .mixedOrders=true) {f:FuncId}{fn:Func}{nt:Nat} (h:bW P f fn aFc) (I:fn.ntmps=nt) (J:fn.results.toList=[.tmp 4]) (H:Nat.ble 2 nt=true)
  (l:List Int) (n:Int):Fn P f [] [.sl 1 (E cI l),.v (.int .i64 n)] (.v (.int .i64 (szI l n))) []:=by
 refine h.fn0 L I J H λX=>?_;unfold aFc;simp -dsimp only[go_sem];refine Br.mk (λF=>?_) λF=>?_
 .simp -dsimp only[go_sem];simp only[decide_eq_true_eq] at F;simp[szI,F]
 .simp -dsimp only[go_sem];simp only[decide_eq_false_iff_not] at F;simp[szI,F]
attribute [local go_sem] reduceIte reduceCtorEq Nat.reduceEqDiff in
theorem aMX (hm:P.follows .mixedOrders=true) {f:FuncId}{fn:Func}{nt:Nat} (h:bW P f fn aAe) (hnt:fn.ntmps=nt) (hrs:fn.results.toList=[.tmp 2]) (hna:Nat.ble 1 nt=true)
  {l:List Int} (hl:l.length<=1048576):Fn P f [] [.sl 1 (E cI l)] (.sl 1 (E cI l)) []:=by
 refine h.fn0 hm hnt hrs hna λX=>?_;unfold aAe;simp -dsimp only[go_sem];refine⟨⟨by omega,by omega,by omega⟩,?_⟩
 refine aN.intro (bZ hm) (λi:{i:Nat // i<=l.length}=>⟨[(0,.sl 1 (E cI l)),(3,.loc (.t 7 0) 0 l.length),(4,.v (.int .i64 i.1))],
   [(.t 7 0,.arr 1 (E cI (l.take i.1)++List.replicate (l.length-i.1) [.v (.int .i64 0)]) false)]⟩) (λi=>l.length-i.1) ⟨0,by omega⟩ ?_ ?_
 .simp[LeL,look,aB,E]
 .rintro⟨i,hi⟩;simp -dsimp only[go_sem];refine Br.mk (λh1=>?_) λh1=>?_
  .have hlt:i<l.length:=by simpa using h1
   have hw:=aH hlt hl;simp -dsimp only[go_sem,bY hlt,aDn hlt,hw];have e:=aGt (c:=cI) hlt (x:=[.v (.int .i64 l[i])]) rfl [.v (.int .i64 0)];rw[e];exact⟨⟨by omega,by omega⟩,⟨by omega,by omega⟩,by omega,⟨i+1,by omega⟩,by simp[LeL,look,aB],by simp only;omega⟩
  .have hge:i=l.length:=by
    have:¬i<l.length:=by simpa using h1
    omega
   subst hge;simp -dsimp only[go_sem,aGu];simp
attribute [local go_sem] reduceIte reduceCtorEq Nat.reduceEqDiff in
theorem aNy (hm:P.follows .mixedOrders=true) {f:FuncId}{fn:Func}{nt:Nat} (h:bW P f fn aF9) (hnt:fn.ntmps=nt) (hrs:fn.results.toList=[.tmp 4]) (hna:Nat.ble 2 nt=true)
  {l:List Int} (hl:l.length<=1048576):Fn P f [] [.sl 1 (E cI l),.sl 1 (E cI l)] (.v (.bool true)) []:=by
 refine h.fn0 hm hnt hrs hna λX=>?_;unfold aF9;simp -dsimp only[go_sem];refine aN.intro (bZ hm) (λi:{i:Nat // i<=l.length}=>⟨[(0,.sl 1 (E cI l)),(1,.sl 1 (E cI l)),(5,.v (.int .i64 i.1))],[]⟩) (λi=>l.length-i.1) ⟨0,by omega⟩ ?_ ?_
 .simp[LeL,look]
 .rintro⟨i,hi⟩;simp -dsimp only[go_sem];refine Br.mk (λh1=>?_) λh1=>?_
  .have hlt:i<l.length:=by simpa using h1
   have hw:=aH hlt hl;simp -dsimp only[go_sem];refine RgK.mk rfl ?_;simp -dsimp only[go_sem,bY hlt,hw];exact⟨⟨by omega,by omega⟩,⟨by omega,by omega⟩,⟨i+1,by omega⟩,by simp[LeL,look],by simp only;omega⟩
  .simp -dsimp only[go_sem];simp
end
end Go.Vs
