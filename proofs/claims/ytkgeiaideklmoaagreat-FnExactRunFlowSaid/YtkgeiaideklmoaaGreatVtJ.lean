/- Lists of numbers: size, copy, comparison. -/
import Derived.Test.YtkgeiaideklmoaaGreatVtF
set_option linter.all false
set_option maxHeartbeats 8000000
namespace Go.Vs
section
variable [Envs]
variable {P:Program}{α:Type}{c:α->List AV}
attribute [local irreducible] Fn
def aFm (k:Nat) (g:FuncId):aD:=
 .seq (.region [⟨some 4,.mv (.const (.int .i64 (0))),none⟩] [0,1] []) <|
 .seq (.region [⟨some 6,.mv (.tmp 1),none⟩,
    ⟨some 7,.mv (.tmp 0),none⟩,
    ⟨some 8,.len (.tmp 7),none⟩,
    ⟨some 9,.bin .sub (.tmp 6) (.tmp 8),none⟩,
    ⟨some 1,.mv (.tmp 9),none⟩] [0,1] []) <|
 .seq (.seq (.region [⟨some 10,.mv (.tmp 1),none⟩,
     ⟨some 11,.bin .lss (.tmp 10) (.const (.int .i64 (0))),none⟩] [0,1,11] []) <|
  .cond (.tmp 11)
    (.seq (.region [⟨some 4,.mv (.const (.int .i64 (-1))),none⟩] [4] []) <|
    .ret)
    (.skip)) <|
 .seq (.seq (.region [⟨some 5,.mv (.const (.int .i64 (0))),none⟩] [0,1,5] []) <|
  .block 0 (
    .loop (
      .seq (.seq (.region [⟨some 12,.mv (.tmp 5),none⟩,
          ⟨some 13,.mv (.tmp 0),none⟩,
          ⟨some 14,.len (.tmp 13),none⟩,
          ⟨some 15,.bin .lss (.tmp 12) (.tmp 14),none⟩] [0,1,5,15] []) <|
       .cond (.tmp 15)
         (.skip)
         (.exit 0)) <|
      .seq (.block 1 (
         .seq (.region [⟨some 18,.mv (.tmp 0),none⟩,
            ⟨some 19,.mv (.tmp 5),none⟩,
            ⟨some 20,.idxSl k (.tmp 18) (.tmp 19),none⟩,
            ⟨some 21,.load true k (.tmp 20),none⟩,
            ⟨some 22,.mv (.tmp 1),none⟩,
            ⟨some 23,.call (.func g) [(.tmp 21),(.tmp 22)] [],none⟩,
            ⟨some 1,.mv (.tmp 23),none⟩] [0,1,5] []) <|
         .seq (.region [⟨some 24,.mv (.tmp 1),none⟩,
            ⟨some 25,.bin .lss (.tmp 24) (.const (.int .i64 (0))),none⟩] [0,1,5,25] []) <|
         .cond (.tmp 25)
           (.seq (.region [⟨some 4,.mv (.const (.int .i64 (-1))),none⟩] [4] []) <|
           .ret)
           (.skip))) <|
      .region [⟨some 16,.mv (.tmp 5),none⟩,
        ⟨some 17,.bin .add (.tmp 16) (.const (.int .i64 (1))),none⟩,
        ⟨some 5,.mv (.tmp 17),none⟩] [0,1,5] []))) <|
 .seq (.region [⟨some 26,.mv (.tmp 1),none⟩,
    ⟨some 4,.mv (.tmp 26),none⟩] [4] []) <|
 .ret
attribute [local go_sem] reduceIte reduceCtorEq Nat.reduceEqDiff in
theorem aGK (hm:P.follows .mixedOrders=true) {f:FuncId}{fn:Func}{k:Nat}{g:FuncId}{nt:Nat} (h:cZ P f fn (aFm k g)) (hnt:fn.ntmps=nt) (hrs:fn.results.toList=[.tmp 4]) (hna:Nat.ble 2 nt=true)
  (φ:α->Int->Int) (hk:∀x,(c x).length=k) (hcb:∀x,dS (c x)=true) {l:List α} (hg:∀x,x∈l->∀n,0<=n->n<=1048576->Fn P g [] [.agg (c x),.v (.int .i64 n)] (.v (.int .i64 (φ x n))) []) (hφ:∀x,x∈l->∀n,0<=n->n<=1048576->0<=φ x n->φ x n<=n) (n:Int) (hl:l.length<2 ^ 63) (hn:0<=n∧n<=1048576) :
  Fn P f [] [.sl k (E c l),.v (.int .i64 n)] (.v (.int .i64 (szL φ l n))) []:=by
 refine h.fn0 hm hnt hrs hna λX=>?_;unfold aFm;simp -dsimp only[go_sem];refine Br.mk (λh0=>?_) λh0=>?_
 .simp -dsimp only[go_sem];simp only[Bb] at h0;simp[szL,h0]
 .simp -dsimp only[go_sem];simp only[BC] at h0;have hW:=h0;rw[aR (by omega) (by omega)] at hW
  refine aM.intro (bB hm) (λx:{p:Nat×Int // p.1<=l.length∧(0<=p.2∧p.2<=1048576)∧wC φ (l.drop p.1) p.2=szL φ l n}=>⟨[(0,.sl k (E c l)),(1,.v (.int .i64 x.1.2)),(5,.v (.int .i64 x.1.1))],[]⟩) (λx=>l.length-x.1.1)
   ⟨(0,IntKind.i64.wrap (n-l.length)),by simp,⟨by omega,by rw[aR (by omega) (by omega)];omega⟩,by simp[szL,h0]⟩ ?_ ?_
  .simp[LeL,look]
  .rintro⟨⟨i,m⟩,hi,hm',hP⟩;simp only at hi hm' hP;simp -dsimp only[go_sem];refine Br.mk (λh1=>?_) λh1=>?_
   .have hlt:i<l.length:=by simpa using h1
    have hw:=aG hlt (by omega);simp -dsimp only[go_sem,aN hlt];refine⟨⟨by omega,by omega⟩,by rw[hk];exact Ar _,?_⟩;have ht:(c l[i]).take k=c l[i]:=Aj (by rw[hk];exact Ar _);simp -dsimp only[go_sem,ht,aF (hcb l[i]) _ 6];refine aB.flat (hg _ (Aa hlt) _ hm'.1 hm'.2) rfl ?_;simp -dsimp only[go_sem];rw[aDN φ m hlt] at hP;refine Br.mk (λh2=>?_) λh2=>?_
    .simp -dsimp only[go_sem];simp only[Bb] at h2;rw[AP h2] at hP;simp[←hP]
    .simp -dsimp only[go_sem,hw];simp only[BC] at h2;rw[AB h2] at hP;have hle:=hφ l[i] (Aa hlt) m hm'.1 hm'.2 (by omega);exact⟨⟨(i+1,φ l[i] m),by simp only;omega,by simp only;omega,hP⟩,by simp[LeL,look],by simp only;omega⟩
   .have hge:i=l.length:=by
     have:¬i<l.length:=by simpa using h1
     omega
    subst hge;simp -dsimp only[go_sem];rw[aFq] at hP;simp[hP]
def aAv (k y:Nat) (z:List AV) (g:FuncId):aD:=
 .seq (.region [⟨some 2,.mv (.const (.slice none 0 0)),none⟩] [0] []) <|
 .seq (.region [⟨some 5,.mv (.tmp 0),none⟩,
    ⟨some 6,.len (.tmp 5),none⟩,
    ⟨some 7,.mk k y z (.tmp 6),none⟩,
    ⟨some 3,.mv (.tmp 7),none⟩] [0,3] []) <|
 .seq (.seq (.region [⟨some 4,.mv (.const (.int .i64 (0))),none⟩] [0,3,4] []) <|
  .block 0 (
    .loop (
      .seq (.seq (.region [⟨some 8,.mv (.tmp 4),none⟩,
          ⟨some 9,.mv (.tmp 0),none⟩,
          ⟨some 10,.len (.tmp 9),none⟩,
          ⟨some 11,.bin .lss (.tmp 8) (.tmp 10),none⟩] [0,3,4,11] []) <|
       .cond (.tmp 11)
         (.skip)
         (.exit 0)) <|
      .seq (.block 1 (
         .region [⟨some 14,.mv (.tmp 3),none⟩,
           ⟨some 15,.mv (.tmp 4),none⟩,
           ⟨some 16,.mv (.tmp 0),none⟩,
           ⟨some 17,.mv (.tmp 4),none⟩,
           ⟨some 18,.idxSl k (.tmp 16) (.tmp 17),none⟩,
           ⟨some 19,.load true k (.tmp 18),none⟩,
           ⟨some 20,.call (.func g) [(.tmp 19)] [],none⟩,
           ⟨some 21,.idxSl k (.tmp 14) (.tmp 15),none⟩,
           ⟨none,.store k (.tmp 21) (.tmp 20),none⟩] [0,3,4] [])) <|
      .region [⟨some 12,.mv (.tmp 4),none⟩,
        ⟨some 13,.bin .add (.tmp 12) (.const (.int .i64 (1))),none⟩,
        ⟨some 4,.mv (.tmp 13),none⟩] [0,3,4] []))) <|
 .seq (.region [⟨some 22,.mv (.tmp 3),none⟩,
    ⟨some 2,.mv (.tmp 22),none⟩] [2] []) <|
 .ret
attribute [local go_sem] reduceIte reduceCtorEq Nat.reduceEqDiff in
theorem aGH (hm:P.follows .mixedOrders=true) {f:FuncId}{fn:Func}{k y:Nat}{z:List AV}{g:FuncId}{nt:Nat} (h:cZ P f fn (aAv k y z g)) (hnt:fn.ntmps=nt) (hrs:fn.results.toList=[.tmp 2]) (hna:Nat.ble 1 nt=true)
  (hk:∀x,(c x).length=k) (hk0:0<k) (hz:z.length=k) (hzz:aHG z=true) (hcb:∀x,dS (c x)=true) {l:List α} (hg:∀x,x∈l->Fn P g [] [.agg (c x)] (.agg (c x)) []) (hl:l.length<=1048576) (hy:y<=1024) :
  Fn P f [] [.sl k (E c l)] (.sl k (E c l)) []:=by
 refine h.fn0 hm hnt hrs hna λX=>?_;unfold aAv;simp -dsimp only[go_sem]
 have hly:(l.length:Int)*(y:Int)<=2 ^ 47:=by
  have h1:l.length*y<=1048576*1024:=Nat.mul_le_mul hl hy;have h2:((l.length*y:Nat):Int)<=((1048576*1024:Nat):Int):=Int.ofNat_le.2 h1;rw[Int.natCast_mul] at h2;omega
 refine⟨⟨by omega,hly,by omega,hz,by have:=aCr hzz (λ_=>none);simpa -dsimp only[go_sem] using this⟩,?_⟩
 refine aM.intro (bB hm) (λi:{i:Nat // i<=l.length}=>⟨[(0,.sl k (E c l)),(3,.loc (.t 7 0) 0 l.length),(4,.v (.int .i64 i.1))],
   [(.t 7 0,.arr k (E c (l.take i.1)++List.replicate (l.length-i.1) z) false)]⟩) (λi=>l.length-i.1) ⟨0,by omega⟩ ?_ ?_
 .simp[LeL,look,aA,E]
 .rintro⟨i,hi⟩;simp -dsimp only[go_sem];refine Br.mk (λh1=>?_) λh1=>?_
  .have hlt:i<l.length:=by simpa using h1
   have hw:=aG hlt hl;have ht:(c l[i]).take k=c l[i]:=Aj (by rw[hk];exact Ar _);simp -dsimp only[go_sem,aN hlt,ht,aF (hcb l[i]) _ 6];refine⟨⟨by omega,by omega⟩,by rw[hk];exact Ar _,?_⟩;refine aB.pure (hg _ (Aa hlt)) ?_;simp -dsimp only[go_sem,aFE (hcb l[i]),aDv hlt,aIJ (hcb l[i])];refine⟨⟨by omega,by omega⟩,⟨hk0,hk _,by rw[hz];exact Ar _,aEk (hcb _)⟩,?_⟩;have e:=aGD (c:=c) hlt (x:=lay z 0 (c l[i])) (aBr (by rw[hz,hk])) z;simp -dsimp only[go_sem,hw,e];exact⟨⟨i+1,by omega⟩,by simp[LeL,look,aA],by simp only;omega⟩
  .have hge:i=l.length:=by
    have:¬i<l.length:=by simpa using h1
    omega
   subst hge;simp -dsimp only[go_sem,aGE];simp
end
section
variable [Envs]
variable {P:Program}{α:Type}{c:α->List AV}
attribute [local irreducible] Fn
def aGf (k:Nat) (g:FuncId):aD:=
 .seq (.region [⟨some 4,.mv (.const (.bool false)),none⟩] [0,1] []) <|
 .seq (.seq (.region [⟨some 6,.mv (.tmp 0),none⟩,
     ⟨some 7,.len (.tmp 6),none⟩,
     ⟨some 8,.mv (.tmp 1),none⟩,
     ⟨some 9,.len (.tmp 8),none⟩,
     ⟨some 10,.bin .neq (.tmp 7) (.tmp 9),none⟩] [0,1,10] []) <|
  .cond (.tmp 10)
    (.seq (.region [⟨some 4,.mv (.const (.bool false)),none⟩] [4] []) <|
    .ret)
    (.skip)) <|
 .seq (.seq (.region [⟨some 5,.mv (.const (.int .i64 (0))),none⟩] [0,1,5] []) <|
  .block 0 (
    .loop (
      .seq (.seq (.region [⟨some 11,.mv (.tmp 5),none⟩,
          ⟨some 12,.mv (.tmp 0),none⟩,
          ⟨some 13,.len (.tmp 12),none⟩,
          ⟨some 14,.bin .lss (.tmp 11) (.tmp 13),none⟩] [0,1,5,14] []) <|
       .cond (.tmp 14)
         (.skip)
         (.exit 0)) <|
      .seq (.block 1 (
         .seq (.region [⟨some 17,.mv (.tmp 0),none⟩,
            ⟨some 18,.mv (.tmp 5),none⟩,
            ⟨some 19,.idxSl k (.tmp 17) (.tmp 18),none⟩,
            ⟨some 20,.load true k (.tmp 19),none⟩,
            ⟨some 21,.mv (.tmp 1),none⟩,
            ⟨some 22,.mv (.tmp 5),none⟩,
            ⟨some 23,.idxSl k (.tmp 21) (.tmp 22),none⟩,
            ⟨some 24,.load true k (.tmp 23),none⟩,
            ⟨some 25,.call (.func g) [(.tmp 20),(.tmp 24)] [],none⟩,
            ⟨some 26,.un .not (.tmp 25),none⟩] [0,1,5,26] [17,18,20,21,19,22,23,24,25,26]) <|
         .cond (.tmp 26)
           (.seq (.region [⟨some 4,.mv (.const (.bool false)),none⟩] [4] []) <|
           .ret)
           (.skip))) <|
      .region [⟨some 15,.mv (.tmp 5),none⟩,
        ⟨some 16,.bin .add (.tmp 15) (.const (.int .i64 (1))),none⟩,
        ⟨some 5,.mv (.tmp 16),none⟩] [0,1,5] []))) <|
 .seq (.region [⟨some 4,.mv (.const (.bool true)),none⟩] [4] []) <|
 .ret
attribute [local go_sem] reduceIte reduceCtorEq Nat.reduceEqDiff in
theorem aHq (hm:P.follows .mixedOrders=true) {f:FuncId}{fn:Func}{k:Nat}{g:FuncId}{nt:Nat} (h:cZ P f fn (aGf k g)) (hnt:fn.ntmps=nt) (hrs:fn.results.toList=[.tmp 4]) (hna:Nat.ble 2 nt=true)
  (hk:∀x,(c x).length=k) (hcb:∀x,dS (c x)=true) {l:List α} (hg:∀x,x∈l->Fn P g [] [.agg (c x),.agg (c x)] (.v (.bool true)) []) (hl:l.length<=1048576) :
  Fn P f [] [.sl k (E c l),.sl k (E c l)] (.v (.bool true)) []:=by
 refine h.fn0 hm hnt hrs hna λX=>?_;unfold aGf;simp -dsimp only[go_sem];refine aM.intro (bB hm) (λi:{i:Nat // i<=l.length}=>⟨[(0,.sl k (E c l)),(1,.sl k (E c l)),(5,.v (.int .i64 i.1))],[]⟩) (λi=>l.length-i.1) ⟨0,by omega⟩ ?_ ?_
 .simp[LeL,look]
 .rintro⟨i,hi⟩;simp -dsimp only[go_sem];refine Br.mk (λh1=>?_) λh1=>?_
  .have hlt:i<l.length:=by simpa using h1
   have hw:=aG hlt hl;have ht:(c l[i]).take k=c l[i]:=Aj (by rw[hk];exact Ar _);simp -dsimp only[go_sem];refine RgK.mk rfl ?_;simp -dsimp only[go_sem,aN hlt,ht,aF (hcb l[i]) _ 6];refine⟨⟨by omega,by omega⟩,by rw[hk];exact Ar _,⟨by omega,by omega⟩,by rw[hk];exact Ar _,?_⟩;refine aB.flat (hg _ (Aa hlt)) rfl ?_;simp -dsimp only[go_sem,hw];exact⟨⟨i+1,by omega⟩,by simp[LeL,look],by simp only;omega⟩
  .simp -dsimp only[go_sem];simp
end
section
variable [Envs]
variable {P:Program}{α:Type}{c:α->List AV}
attribute [local irreducible] Fn
def qI (p:α->Bool) (l:List α):Int:=match l.findIdx? p with|some i=>i|none=>-1
theorem aD9 {p:α->Bool}{l:List α} (h:l.all (λx=>!p x)=true):qI p l=-1:=by
 have:l.findIdx? p=none:=by
  rw[List.findIdx?_eq_none_iff];intro x F;simpa using Az.1 h x F
 simp[qI,this]
theorem aD8 {p:α->Bool}{l:List α}{i:Nat} (hi:i<l.length) (h:(l.take i).all (λx=>!p x)=true) (F:p l[i]=true):qI p l=i:=by
 have:l.findIdx? p=some i:=by
  rw[Dv];refine⟨hi,F,λj H=>?_⟩
  have:=Az.1 h l[j] (by
    rw[List.mem_take_iff_getElem];exact⟨j,by omega,rfl⟩)
  simpa using this
 simp[qI,this]
theorem aK4 (p:α->Bool) (l:List α):decide (qI p l≥0)=l.any p:=by
 unfold qI;cases h:l.findIdx? p with
 | none =>
  rw[List.findIdx?_eq_none_iff] at h
  have:l.any p=false:=by
   rw[List.any_eq_false];intro x H;simp[h x H]
  simp[this]
 | some i =>
  rw[Dv] at h;obtain⟨hi,F,_⟩:=h;have:l.any p=true:=List.any_eq_true.2 ⟨l[i],Aa hi,F⟩;simp[this]
def aF4 (k:Nat):aD:=
 .seq (.region [⟨some 4,.mv (.const (.int .i64 (0))),none⟩] [0,1] []) <|
 .seq (.seq (.region [⟨some 6,.mv (.tmp 0),none⟩,
     ⟨some 7,.len (.tmp 6),none⟩,
     ⟨some 8,.mv (.const (.int .i64 (0))),none⟩] [0,1,7,8] []) <|
  .block 0 (
    .loop (
      .seq (.region [⟨some 9,.bin .lss (.tmp 8) (.tmp 7),none⟩] [0,1,7,8,9] []) <|
      .seq (.cond (.tmp 9)
         (.skip)
         (.exit 0)) <|
      .seq (.block 1 (
         .seq (.region [⟨some 10,.mv (.tmp 8),none⟩,
            ⟨some 5,.mv (.tmp 10),none⟩] [0,1,5,7,8] []) <|
         .seq (.region [⟨some 11,.mv (.tmp 1),none⟩,
            ⟨some 12,.mv (.tmp 0),none⟩,
            ⟨some 13,.mv (.tmp 5),none⟩,
            ⟨some 14,.idxSl k (.tmp 12) (.tmp 13),none⟩,
            ⟨some 15,.load true k (.tmp 14),none⟩,
            ⟨some 16,.call (.tmp 11) [(.tmp 15)] [],none⟩] [0,1,5,7,8,16] []) <|
         .cond (.tmp 16)
           (.seq (.region [⟨some 17,.mv (.tmp 5),none⟩,
              ⟨some 4,.mv (.tmp 17),none⟩] [4] []) <|
           .ret)
           (.skip))) <|
      .region [⟨some 18,.bin .add (.tmp 8) (.const (.int .i64 (1))),none⟩,
        ⟨some 8,.mv (.tmp 18),none⟩] [0,1,7,8] []))) <|
 .seq (.region [⟨some 4,.mv (.const (.int .i64 (-1))),none⟩] [4] []) <|
 .ret
attribute [local go_sem] reduceIte reduceCtorEq Nat.reduceEqDiff in
theorem aEZ (hm:P.follows .mixedOrders=true) {f:FuncId}{fn:Func}{k:Nat}{nt:Nat} (h:cZ P f fn (aF4 k)) (hnt:fn.ntmps=nt) (hrs:fn.results.toList=[.tmp 4]) (hna:Nat.ble 2 nt=true)
  (p:α->Bool) (g:FuncId) (caps:List AV) (hcaps:dS caps=true) (hk:∀x,(c x).length=k) (hcb:∀x,dS (c x)=true) {l:List α} (hg:∀x,x∈l->Fn P g [] (.agg (c x)::caps) (.v (.bool (p x))) []) (hl:l.length<=1048576) :
  Fn P f [] [.sl k (E c l),.fn g caps] (.v (.int .i64 (qI p l))) []:=by
 refine h.fn0 hm hnt hrs hna λX=>?_;unfold aF4;simp -dsimp only[go_sem,aF hcaps _ 6];refine aM.intro (bB hm) (λi:{i:Nat // i<=l.length∧(l.take i).all (λx=>!p x)=true}=>⟨[(0,.sl k (E c l)),(1,.fn g caps),(7,.v (.int .i64 l.length)),(8,.v (.int .i64 i.1))],[]⟩) (λi=>l.length-i.1) ⟨0,by simp⟩ ?_ ?_
 .simp[LeL,look]
 .rintro⟨i,hi,hall⟩;simp -dsimp only[go_sem];refine Br.mk (λh1=>?_) λh1=>?_
  .have hlt:i<l.length:=by simpa using h1
   have hw:=aG hlt hl;have ht:(c l[i]).take k=c l[i]:=Aj (by rw[hk];exact Ar _);simp -dsimp only[go_sem,aN hlt,ht,aF (hcb l[i]) _ 6,aF hcaps _ 7];refine⟨⟨by omega,by omega⟩,by rw[hk];exact Ar _,?_⟩;refine aB.flat (hg _ (Aa hlt)) rfl ?_;simp -dsimp only[go_sem];refine Br.mk (λh2=>?_) λh2=>?_
   .simp -dsimp only[go_sem];simp[aD8 hlt hall h2]
   .simp -dsimp only[go_sem,hw];exact⟨⟨i+1,by omega,bD hlt hall (by simpa using h2)⟩,by simp[LeL,look],by simp only;omega⟩
  .have hge:i=l.length:=by
    have:¬i<l.length:=by simpa using h1
    omega
   subst hge;simp -dsimp only[go_sem];have:l.all (λx=>!p x)=true:=by simpa using hall
   simp[aD9 this]
def cI (n:Int):List AV:=[.v (.int .i64 n)]
def aF3:aD:=
 .seq (.region [⟨some 4,.mv (.const (.int .i64 (0))),none⟩] [0,1] []) <|
 .seq (.seq (.region [⟨some 6,.mv (.tmp 0),none⟩,
     ⟨some 7,.len (.tmp 6),none⟩,
     ⟨some 8,.mv (.const (.int .i64 (0))),none⟩] [0,1,7,8] []) <|
  .block 0 (
    .loop (
      .seq (.region [⟨some 9,.bin .lss (.tmp 8) (.tmp 7),none⟩] [0,1,7,8,9] []) <|
      .seq (.cond (.tmp 9)
         (.skip)
         (.exit 0)) <|
      .seq (.block 1 (
         .seq (.region [⟨some 10,.mv (.tmp 8),none⟩,
            ⟨some 5,.mv (.tmp 10),none⟩] [0,1,5,7,8] []) <|
         .seq (.region [⟨some 11,.mv (.tmp 1),none⟩,
            ⟨some 12,.mv (.tmp 0),none⟩,
            ⟨some 13,.mv (.tmp 5),none⟩,
            ⟨some 14,.idxSl 1 (.tmp 12) (.tmp 13),none⟩,
            ⟨some 15,.load false 1 (.tmp 14),none⟩,
            ⟨some 16,.call (.tmp 11) [(.tmp 15)] [],none⟩] [0,1,5,7,8,16] []) <|
         .cond (.tmp 16)
           (.seq (.region [⟨some 17,.mv (.tmp 5),none⟩,
              ⟨some 4,.mv (.tmp 17),none⟩] [4] []) <|
           .ret)
           (.skip))) <|
      .region [⟨some 18,.bin .add (.tmp 8) (.const (.int .i64 (1))),none⟩,
        ⟨some 8,.mv (.tmp 18),none⟩] [0,1,7,8] []))) <|
 .seq (.region [⟨some 4,.mv (.const (.int .i64 (-1))),none⟩] [4] []) <|
 .ret
attribute [local go_sem] reduceIte reduceCtorEq Nat.reduceEqDiff in
theorem aHb (hm:P.follows .mixedOrders=true) {f:FuncId}{fn:Func}{nt:Nat} (h:cZ P f fn (aF3)) (hnt:fn.ntmps=nt) (hrs:fn.results.toList=[.tmp 4]) (hna:Nat.ble 2 nt=true)
  (p:Int->Bool) (g:FuncId) (caps:List AV) (hcaps:dS caps=true) {l:List Int} (hg:∀x,x∈l->Fn P g [] (.v (.int .i64 x)::caps) (.v (.bool (p x))) []) (hl:l.length<=1048576) :
  Fn P f [] [.sl 1 (E cI l),.fn g caps] (.v (.int .i64 (qI p l))) []:=by
 refine h.fn0 hm hnt hrs hna λX=>?_;unfold aF3;simp -dsimp only[go_sem,aF hcaps _ 6];refine aM.intro (bB hm) (λi:{i:Nat // i<=l.length∧(l.take i).all (λx=>!p x)=true}=>⟨[(0,.sl 1 (E cI l)),(1,.fn g caps),(7,.v (.int .i64 l.length)),(8,.v (.int .i64 i.1))],[]⟩) (λi=>l.length-i.1) ⟨0,by simp⟩ ?_ ?_
 .simp[LeL,look]
 .rintro⟨i,hi,hall⟩;simp -dsimp only[go_sem];refine Br.mk (λh1=>?_) λh1=>?_
  .have hlt:i<l.length:=by simpa using h1
   have hw:=aG hlt hl;simp -dsimp only[go_sem,aN hlt,cI,aF hcaps _ 7];refine⟨⟨by omega,by omega⟩,?_⟩;refine aB.flat (hg _ (Aa hlt)) rfl ?_;simp -dsimp only[go_sem];refine Br.mk (λh2=>?_) λh2=>?_
   .simp -dsimp only[go_sem];simp[aD8 hlt hall h2]
   .simp -dsimp only[go_sem,hw];exact⟨⟨i+1,by omega,bD hlt hall (by simpa using h2)⟩,by simp[LeL,look],by simp only;omega⟩
  .have hge:i=l.length:=by
    have:¬i<l.length:=by simpa using h1
    omega
   subst hge;simp -dsimp only[go_sem];have:l.all (λx=>!p x)=true:=by simpa using hall
   simp[aD9 this]
def aIy (g:FuncId):aD:=
 .seq (.region [⟨some 4,.mv (.const (.bool false)),none⟩] [0,1] []) <|
 .seq (.region [⟨some 5,.mv (.tmp 0),none⟩,
    ⟨some 6,.mv (.tmp 1),none⟩,
    ⟨some 7,.call (.func g) [(.tmp 5),(.tmp 6)] [],none⟩,
    ⟨some 8,.bin .geq (.tmp 7) (.const (.int .i64 (0))),none⟩,
    ⟨some 4,.mv (.tmp 8),none⟩] [4] []) <|
 .ret
attribute [local go_sem] reduceIte reduceCtorEq Nat.reduceEqDiff in
theorem aGl (O:P.follows .mixedOrders=true) {f:FuncId}{fn:Func}{g:FuncId}{nt:Nat} (h:cZ P f fn (aIy g)) (I:fn.ntmps=nt) (J:fn.results.toList=[.tmp 4]) (H:Nat.ble 2 nt=true)
  (p:α->Bool) (q:FuncId) (caps:List AV) (F:dS caps=true) {k:Nat}{l:List α} (L:Fn P g [] [.sl k (E c l),.fn q caps] (.v (.int .i64 (qI p l))) []) :
  Fn P f [] [.sl k (E c l),.fn q caps] (.v (.bool (l.any p))) []:=by
 refine h.fn0 O I J H λX=>?_;unfold aIy;simp -dsimp only[go_sem,aF F _ 6,aF F _ 7];refine aB.flat L rfl ?_;simp -dsimp only[go_sem];simp[←aK4]
end
section
variable [Envs]
variable {P:Program}
attribute [local irreducible] Fn
theorem dJ {l:List Int}{i:Nat} (h:i<l.length):((E cI l).getD i [])=[.v (.int .i64 l[i])]:=aN h
def aFo:aD:=
 .seq (.region [⟨some 4,.mv (.const (.int .i64 (0))),none⟩] [0,1] []) <|
 .seq (.region [⟨some 5,.mv (.tmp 1),none⟩,
    ⟨some 6,.mv (.tmp 0),none⟩,
    ⟨some 7,.len (.tmp 6),none⟩,
    ⟨some 8,.bin .sub (.tmp 5) (.tmp 7),none⟩,
    ⟨some 1,.mv (.tmp 8),none⟩] [1] []) <|
 .seq (.seq (.region [⟨some 9,.mv (.tmp 1),none⟩,
     ⟨some 10,.bin .lss (.tmp 9) (.const (.int .i64 (0))),none⟩] [1,10] []) <|
  .cond (.tmp 10)
    (.seq (.region [⟨some 4,.mv (.const (.int .i64 (-1))),none⟩] [4] []) <|
    .ret)
    (.skip)) <|
 .seq (.region [⟨some 11,.mv (.tmp 1),none⟩,
    ⟨some 4,.mv (.tmp 11),none⟩] [4] []) <|
 .ret
def aAw:aD:=
 .seq (.region [⟨some 2,.mv (.const (.slice none 0 0)),none⟩] [0] []) <|
 .seq (.region [⟨some 5,.mv (.tmp 0),none⟩,
    ⟨some 6,.len (.tmp 5),none⟩,
    ⟨some 7,.mk 1 8 [.v (.int .i64 (0))] (.tmp 6),none⟩,
    ⟨some 3,.mv (.tmp 7),none⟩] [0,3] []) <|
 .seq (.seq (.region [⟨some 4,.mv (.const (.int .i64 (0))),none⟩] [0,3,4] []) <|
  .block 0 (
    .loop (
      .seq (.seq (.region [⟨some 8,.mv (.tmp 4),none⟩,
          ⟨some 9,.mv (.tmp 0),none⟩,
          ⟨some 10,.len (.tmp 9),none⟩,
          ⟨some 11,.bin .lss (.tmp 8) (.tmp 10),none⟩] [0,3,4,11] []) <|
       .cond (.tmp 11)
         (.skip)
         (.exit 0)) <|
      .seq (.block 1 (
         .region [⟨some 14,.mv (.tmp 3),none⟩,
           ⟨some 15,.mv (.tmp 4),none⟩,
           ⟨some 16,.mv (.tmp 0),none⟩,
           ⟨some 17,.mv (.tmp 4),none⟩,
           ⟨some 18,.idxSl 1 (.tmp 16) (.tmp 17),none⟩,
           ⟨some 19,.load false 1 (.tmp 18),none⟩,
           ⟨some 20,.idxSl 1 (.tmp 14) (.tmp 15),none⟩,
           ⟨none,.store 1 (.tmp 20) (.tmp 19),none⟩] [0,3,4] [])) <|
      .region [⟨some 12,.mv (.tmp 4),none⟩,
        ⟨some 13,.bin .add (.tmp 12) (.const (.int .i64 (1))),none⟩,
        ⟨some 4,.mv (.tmp 13),none⟩] [0,3,4] []))) <|
 .seq (.region [⟨some 21,.mv (.tmp 3),none⟩,
    ⟨some 2,.mv (.tmp 21),none⟩] [2] []) <|
 .ret
def aGh:aD:=
 .seq (.region [⟨some 4,.mv (.const (.bool false)),none⟩] [0,1] []) <|
 .seq (.seq (.region [⟨some 6,.mv (.tmp 0),none⟩,
     ⟨some 7,.len (.tmp 6),none⟩,
     ⟨some 8,.mv (.tmp 1),none⟩,
     ⟨some 9,.len (.tmp 8),none⟩,
     ⟨some 10,.bin .neq (.tmp 7) (.tmp 9),none⟩] [0,1,10] []) <|
  .cond (.tmp 10)
    (.seq (.region [⟨some 4,.mv (.const (.bool false)),none⟩] [4] []) <|
    .ret)
    (.skip)) <|
 .seq (.seq (.region [⟨some 5,.mv (.const (.int .i64 (0))),none⟩] [0,1,5] []) <|
  .block 0 (
    .loop (
      .seq (.seq (.region [⟨some 11,.mv (.tmp 5),none⟩,
          ⟨some 12,.mv (.tmp 0),none⟩,
          ⟨some 13,.len (.tmp 12),none⟩,
          ⟨some 14,.bin .lss (.tmp 11) (.tmp 13),none⟩] [0,1,5,14] []) <|
       .cond (.tmp 14)
         (.skip)
         (.exit 0)) <|
      .seq (.block 1 (
         .seq (.region [⟨some 17,.mv (.tmp 0),none⟩,
            ⟨some 18,.mv (.tmp 5),none⟩,
            ⟨some 19,.idxSl 1 (.tmp 17) (.tmp 18),none⟩,
            ⟨some 20,.load false 1 (.tmp 19),none⟩,
            ⟨some 21,.mv (.tmp 1),none⟩,
            ⟨some 22,.mv (.tmp 5),none⟩,
            ⟨some 23,.idxSl 1 (.tmp 21) (.tmp 22),none⟩,
            ⟨some 24,.load false 1 (.tmp 23),none⟩,
            ⟨some 25,.bin .neq (.tmp 20) (.tmp 24),none⟩] [0,1,5,25] [17,18,20,21,19,22,23,24,25]) <|
         .cond (.tmp 25)
           (.seq (.region [⟨some 4,.mv (.const (.bool false)),none⟩] [4] []) <|
           .ret)
           (.skip))) <|
      .region [⟨some 15,.mv (.tmp 5),none⟩,
        ⟨some 16,.bin .add (.tmp 15) (.const (.int .i64 (1))),none⟩,
        ⟨some 5,.mv (.tmp 16),none⟩] [0,1,5] []))) <|
 .seq (.region [⟨some 4,.mv (.const (.bool true)),none⟩] [4] []) <|
 .ret
def szI (l:List Int) (n:Int):Int:=if IntKind.i64.wrap (n-l.length)<0 then -1 else IntKind.i64.wrap (n-l.length)
theorem aGM {l:List Int}{n:Int} (H:l.length<2 ^ 63) (h0:0<=n) (I:n<=1048576) (h:0<=szI l n):szI l n<=n∧(l.length:Int)<=n:=by
 unfold szI at h⊢;split
 .rename_i F;rw[AP F] at h;omega
 .rename_i F;rw[aR (by omega) (by omega)] at F⊢;omega
attribute [local go_sem] reduceIte reduceCtorEq Nat.reduceEqDiff in
theorem aNs (J:P.follows .mixedOrders=true) {f:FuncId}{fn:Func}{nt:Nat} (h:cZ P f fn aFo) (H:fn.ntmps=nt) (I:fn.results.toList=[.tmp 4]) (F:Nat.ble 2 nt=true)
  (l:List Int) (n:Int):Fn P f [] [.sl 1 (E cI l),.v (.int .i64 n)] (.v (.int .i64 (szI l n))) []:=by
 refine h.fn0 J H I F λX=>?_;unfold aFo;simp -dsimp only[go_sem];refine Br.mk (λh0=>?_) λh0=>?_
 .simp -dsimp only[go_sem];simp only[Bb] at h0;simp[szI,h0]
 .simp -dsimp only[go_sem];simp only[BC] at h0;simp[szI,h0]
attribute [local go_sem] reduceIte reduceCtorEq Nat.reduceEqDiff in
theorem aNp (hm:P.follows .mixedOrders=true) {f:FuncId}{fn:Func}{nt:Nat} (h:cZ P f fn aAw) (hnt:fn.ntmps=nt) (hrs:fn.results.toList=[.tmp 2]) (hna:Nat.ble 1 nt=true)
  {l:List Int} (hl:l.length<=1048576):Fn P f [] [.sl 1 (E cI l)] (.sl 1 (E cI l)) []:=by
 refine h.fn0 hm hnt hrs hna λX=>?_;unfold aAw;simp -dsimp only[go_sem];refine⟨⟨by omega,by omega,by omega⟩,?_⟩
 refine aM.intro (bB hm) (λi:{i:Nat // i<=l.length}=>⟨[(0,.sl 1 (E cI l)),(3,.loc (.t 7 0) 0 l.length),(4,.v (.int .i64 i.1))],
   [(.t 7 0,.arr 1 (E cI (l.take i.1)++List.replicate (l.length-i.1) [.v (.int .i64 0)]) false)]⟩) (λi=>l.length-i.1) ⟨0,by omega⟩ ?_ ?_
 .simp[LeL,look,aA,E]
 .rintro⟨i,hi⟩;simp -dsimp only[go_sem];refine Br.mk (λh1=>?_) λh1=>?_
  .have hlt:i<l.length:=by simpa using h1
   have hw:=aG hlt hl;simp -dsimp only[go_sem,dJ hlt,aDv hlt,hw];have e:=aGD (c:=cI) hlt (x:=[.v (.int .i64 l[i])]) rfl [.v (.int .i64 0)];rw[e];exact⟨⟨by omega,by omega⟩,⟨by omega,by omega⟩,by omega,⟨i+1,by omega⟩,by simp[LeL,look,aA],by simp only;omega⟩
  .have hge:i=l.length:=by
    have:¬i<l.length:=by simpa using h1
    omega
   subst hge;simp -dsimp only[go_sem,aGE];simp
attribute [local go_sem] reduceIte reduceCtorEq Nat.reduceEqDiff in
theorem aN1 (hm:P.follows .mixedOrders=true) {f:FuncId}{fn:Func}{nt:Nat} (h:cZ P f fn aGh) (hnt:fn.ntmps=nt) (hrs:fn.results.toList=[.tmp 4]) (hna:Nat.ble 2 nt=true)
  {l:List Int} (hl:l.length<=1048576):Fn P f [] [.sl 1 (E cI l),.sl 1 (E cI l)] (.v (.bool true)) []:=by
 refine h.fn0 hm hnt hrs hna λX=>?_;unfold aGh;simp -dsimp only[go_sem];refine aM.intro (bB hm) (λi:{i:Nat // i<=l.length}=>⟨[(0,.sl 1 (E cI l)),(1,.sl 1 (E cI l)),(5,.v (.int .i64 i.1))],[]⟩) (λi=>l.length-i.1) ⟨0,by omega⟩ ?_ ?_
 .simp[LeL,look]
 .rintro⟨i,hi⟩;simp -dsimp only[go_sem];refine Br.mk (λh1=>?_) λh1=>?_
  .have hlt:i<l.length:=by simpa using h1
   have hw:=aG hlt hl;simp -dsimp only[go_sem];refine RgK.mk rfl ?_;simp -dsimp only[go_sem,dJ hlt,hw];exact⟨⟨by omega,by omega⟩,⟨by omega,by omega⟩,⟨i+1,by omega⟩,by simp[LeL,look],by simp only;omega⟩
  .simp -dsimp only[go_sem];simp
end
end Go.Vs
