/- Copies that are handed over, to be written; rows that are marked one by one. -/
import Derived.Test.YtkgeiaideklmoaaGreatVtK
import Derived.Sort.Grow
import Derived.Deep.Draws
import Derived.LaidMore
import Derived.Lib.LaidTab
import Derived.MakeChecks
import Derived.Stop.LaidErr
set_option linter.all false
set_option maxHeartbeats 8000000
namespace Go.Vs
section
variable [Envs]
variable {P:Program}{α:Type}{d:α->AV}
attribute [local irreducible] Fn
theorem aEg {x:AV} (F:zY x=true) (h:Name->Option Blk) (m:Nat) (E:List Name) (b:Bool):conv h (m+1) E b x=some (x,[]):=by
 grind [zY,AV,conv]
def aFn (g:FuncId):aD:=
 .seq (.region [⟨some 4,.mv (.const (.int .i64 (0))),none⟩] [0,1] []) <|
 .seq (.region [⟨some 6,.mv (.tmp 1),none⟩,
    ⟨some 7,.mv (.tmp 0),none⟩,
    ⟨some 8,.len (.tmp 7),none⟩,
    ⟨some 9,.bin .sub (.tmp 6) (.tmp 8),none⟩,
    ⟨some 1,.mv (.tmp 9),none⟩] [0,1] []) <|
 .seq (.seq (.region [⟨some 10,.mv (.tmp 1),none⟩,
     ⟨some 11,.bin .lss (.tmp 10) (.const (.int .i64 (0))),none⟩] [0,1,11] []) <|
  .cond (.tmp 11)
    (.seq (.region [⟨some 4,.mv (.const (.int .i64 (-1))),none⟩] [4] []) <|
    .ret)
    (.skip)) <|
 .seq (.seq (.region [⟨some 5,.mv (.const (.int .i64 (0))),none⟩] [0,1,5] []) <|
  .block 0 (
    .loop (
      .seq (.seq (.region [⟨some 12,.mv (.tmp 5),none⟩,
          ⟨some 13,.mv (.tmp 0),none⟩,
          ⟨some 14,.len (.tmp 13),none⟩,
          ⟨some 15,.bin .lss (.tmp 12) (.tmp 14),none⟩] [0,1,5,15] []) <|
       .cond (.tmp 15)
         (.skip)
         (.exit 0)) <|
      .seq (.block 1 (
         .seq (.region [⟨some 18,.mv (.tmp 0),none⟩,
            ⟨some 19,.mv (.tmp 5),none⟩,
            ⟨some 20,.idxSl 1 (.tmp 18) (.tmp 19),none⟩,
            ⟨some 21,.load false 1 (.tmp 20),none⟩,
            ⟨some 22,.mv (.tmp 1),none⟩,
            ⟨some 23,.call (.func g) [(.tmp 21),(.tmp 22)] [],none⟩,
            ⟨some 1,.mv (.tmp 23),none⟩] [0,1,5] []) <|
         .seq (.region [⟨some 24,.mv (.tmp 1),none⟩,
            ⟨some 25,.bin .lss (.tmp 24) (.const (.int .i64 (0))),none⟩] [0,1,5,25] []) <|
         .cond (.tmp 25)
           (.seq (.region [⟨some 4,.mv (.const (.int .i64 (-1))),none⟩] [4] []) <|
           .ret)
           (.skip))) <|
      .region [⟨some 16,.mv (.tmp 5),none⟩,
        ⟨some 17,.bin .add (.tmp 16) (.const (.int .i64 (1))),none⟩,
        ⟨some 5,.mv (.tmp 17),none⟩] [0,1,5] []))) <|
 .seq (.region [⟨some 26,.mv (.tmp 1),none⟩,
    ⟨some 4,.mv (.tmp 26),none⟩] [4] []) <|
 .ret
attribute [local go_sem] reduceIte reduceCtorEq Nat.reduceEqDiff in
theorem aJ0 (hm:P.follows .mixedOrders=true) {f:FuncId}{fn:Func}{g:FuncId}{nt:Nat} (h:cZ P f fn (aFn g)) (hnt:fn.ntmps=nt) (hrs:fn.results.toList=[.tmp 4]) (hna:Nat.ble 2 nt=true)
  (φ:α->Int->Int) (hcb:∀x,zY (d x)=true) {l:List α} (hg:∀x,x∈l->∀n,0<=n->n<=1048576->Fn P g [] [d x,.v (.int .i64 n)] (.v (.int .i64 (φ x n))) []) (hφ:∀x,x∈l->∀n,0<=n->n<=1048576->0<=φ x n->φ x n<=n) (n:Int) (hl:l.length<2 ^ 63) (hn:0<=n∧n<=1048576) :
  Fn P f [] [.sl 1 (E (λx=>[d x]) l),.v (.int .i64 n)] (.v (.int .i64 (szL φ l n))) []:=by
 refine h.fn0 hm hnt hrs hna λX=>?_;unfold aFn;simp -dsimp only[go_sem];refine Br.mk (λh0=>?_) λh0=>?_
 .simp -dsimp only[go_sem];simp only[Bb] at h0;simp[szL,h0]
 .simp -dsimp only[go_sem];simp only[BC] at h0;have hW:=h0;rw[aR (by omega) (by omega)] at hW
  refine aM.intro (bB hm) (λx:{p:Nat×Int // p.1<=l.length∧(0<=p.2∧p.2<=1048576)∧wC φ (l.drop p.1) p.2=szL φ l n}=>⟨[(0,.sl 1 (E (λx=>[d x]) l)),(1,.v (.int .i64 x.1.2)),(5,.v (.int .i64 x.1.1))],[]⟩) (λx=>l.length-x.1.1)
   ⟨(0,IntKind.i64.wrap (n-l.length)),by simp,⟨by omega,by rw[aR (by omega) (by omega)];omega⟩,by simp[szL,h0]⟩ ?_ ?_
  .simp[LeL,look]
  .rintro⟨⟨i,m⟩,hi,hm',hP⟩;simp only at hi hm' hP;simp -dsimp only[go_sem];refine Br.mk (λh1=>?_) λh1=>?_
   .have hlt:i<l.length:=by simpa using h1
    have hw:=aG hlt (by omega);simp -dsimp only[go_sem,aN hlt];refine⟨⟨by omega,by omega⟩,?_⟩;simp -dsimp only[go_sem,aEg (hcb l[i]) _ 7];refine aB.flat (hg _ (Aa hlt) _ hm'.1 hm'.2) rfl ?_;simp -dsimp only[go_sem];rw[aDN φ m hlt] at hP;refine Br.mk (λh2=>?_) λh2=>?_
    .simp -dsimp only[go_sem];simp only[Bb] at h2;rw[AP h2] at hP;simp[←hP]
    .simp -dsimp only[go_sem,hw];simp only[BC] at h2;rw[AB h2] at hP;have hle:=hφ l[i] (Aa hlt) m hm'.1 hm'.2 (by omega);exact⟨⟨(i+1,φ l[i] m),by simp only;omega,by simp only;omega,hP⟩,by simp[LeL,look],by simp only;omega⟩
   .have hge:i=l.length:=by
     grind
    subst hge;simp -dsimp only[go_sem];rw[aFq] at hP;simp[hP]
def aFi (y:Nat) (z:List AV) (g:FuncId):aD:=
 .seq (.region [⟨some 2,.mv (.const (.slice none 0 0)),none⟩] [0] []) <|
 .seq (.region [⟨some 5,.mv (.tmp 0),none⟩,
    ⟨some 6,.len (.tmp 5),none⟩,
    ⟨some 7,.mk 1 y z (.tmp 6),none⟩,
    ⟨some 3,.mv (.tmp 7),none⟩] [0,3] []) <|
 .seq (.seq (.region [⟨some 4,.mv (.const (.int .i64 (0))),none⟩] [0,3,4] []) <|
  .block 0 (
    .loop (
      .seq (.seq (.region [⟨some 8,.mv (.tmp 4),none⟩,
          ⟨some 9,.mv (.tmp 0),none⟩,
          ⟨some 10,.len (.tmp 9),none⟩,
          ⟨some 11,.bin .lss (.tmp 8) (.tmp 10),none⟩] [0,3,4,11] []) <|
       .cond (.tmp 11)
         (.skip)
         (.exit 0)) <|
      .seq (.block 1 (
         .region [⟨some 14,.mv (.tmp 3),none⟩,
           ⟨some 15,.mv (.tmp 4),none⟩,
           ⟨some 16,.mv (.tmp 0),none⟩,
           ⟨some 17,.mv (.tmp 4),none⟩,
           ⟨some 18,.idxSl 1 (.tmp 16) (.tmp 17),none⟩,
           ⟨some 19,.load false 1 (.tmp 18),none⟩,
           ⟨some 20,.call (.func g) [(.tmp 19)] [],none⟩,
           ⟨some 21,.idxSl 1 (.tmp 14) (.tmp 15),none⟩,
           ⟨none,.store 1 (.tmp 21) (.tmp 20),none⟩] [0,3,4] [])) <|
      .region [⟨some 12,.mv (.tmp 4),none⟩,
        ⟨some 13,.bin .add (.tmp 12) (.const (.int .i64 (1))),none⟩,
        ⟨some 4,.mv (.tmp 13),none⟩] [0,3,4] []))) <|
 .seq (.region [⟨some 22,.mv (.tmp 3),none⟩,
    ⟨some 2,.mv (.tmp 22),none⟩] [2] []) <|
 .ret
attribute [local go_sem] reduceIte reduceCtorEq Nat.reduceEqDiff in
theorem aJU (hm:P.follows .mixedOrders=true) {f:FuncId}{fn:Func}{y:Nat}{z:List AV}{g:FuncId}{nt:Nat} (h:cZ P f fn (aFi y z g)) (hnt:fn.ntmps=nt) (hrs:fn.results.toList=[.tmp 2]) (hna:Nat.ble 1 nt=true)
  (hz:z.length=1) (hzz:aHG z=true) (hcs:∀x,∃k r,d x=.sl k r) {l:List α} (hg:∀x,x∈l->Fn P g [] [d x] (d x) []) (hl:l.length<=1048576) (hy:y<=1024) :
  Fn P f [] [.sl 1 (E (λx=>[d x]) l)] (.sl 1 (E (λx=>[d x]) l)) []:=by
 refine h.fn0 hm hnt hrs hna λX=>?_;unfold aFi;simp -dsimp only[go_sem]
 have hly:(l.length:Int)*(y:Int)<=2 ^ 47:=by
  have h1:l.length*y<=1048576*1024:=Nat.mul_le_mul hl hy
  all_goals grind
 refine⟨⟨by omega,hly,by omega,hz,by have:=aCr hzz (λ_=>none);simpa -dsimp only[go_sem] using this⟩,?_⟩
 refine aM.intro (bB hm) (λi:{i:Nat // i<=l.length}=>⟨[(0,.sl 1 (E (λx=>[d x]) l)),(3,.loc (.t 7 0) 0 l.length),(4,.v (.int .i64 i.1))],
   [(.t 7 0,.arr 1 (E (λx=>[d x]) (l.take i.1)++List.replicate (l.length-i.1) z) false)]⟩) (λi=>l.length-i.1) ⟨0,by omega⟩ ?_ ?_
 .simp[LeL,look,aA,E]
 .rintro⟨i,hi⟩;simp -dsimp only[go_sem];refine Br.mk (λh1=>?_) λh1=>?_
  .have hlt:i<l.length:=by simpa using h1
   have hw:=aG hlt hl;have e:=aGD (c:=λx=>[d x]) hlt (x:=lay z 0 [d l[i]]) (aBr (by rw[hz];rfl)) z;have hgi:=hg _ (Aa hlt);have hgl:=aN (c:=λx=>[d x]) hlt;obtain⟨k,r,hv⟩:=hcs l[i]
   all_goals
    rw[hv] at hgi;simp only[hv] at e hgl;simp -dsimp only[go_sem,hgl];refine⟨⟨by omega,by omega⟩,?_⟩;refine aB.pure hgi ?_;simp -dsimp only[go_sem,aDv hlt];refine⟨⟨by omega,by omega⟩,⟨by omega,by rw[hz];exact Ar _⟩,?_⟩;simp -dsimp only[go_sem,hw];simp -dsimp only[go_sem] at e;simp only[e];exact⟨⟨i+1,by omega⟩,by simp[LeL,look,aA],by simp only;omega⟩
  .have hge:i=l.length:=by
    grind
   subst hge;simp -dsimp only[go_sem,aGE];simp
def aGg (g:FuncId):aD:=
 .seq (.region [⟨some 4,.mv (.const (.bool false)),none⟩] [0,1] []) <|
 .seq (.seq (.region [⟨some 6,.mv (.tmp 0),none⟩,
     ⟨some 7,.len (.tmp 6),none⟩,
     ⟨some 8,.mv (.tmp 1),none⟩,
     ⟨some 9,.len (.tmp 8),none⟩,
     ⟨some 10,.bin .neq (.tmp 7) (.tmp 9),none⟩] [0,1,10] []) <|
  .cond (.tmp 10)
    (.seq (.region [⟨some 4,.mv (.const (.bool false)),none⟩] [4] []) <|
    .ret)
    (.skip)) <|
 .seq (.seq (.region [⟨some 5,.mv (.const (.int .i64 (0))),none⟩] [0,1,5] []) <|
  .block 0 (
    .loop (
      .seq (.seq (.region [⟨some 11,.mv (.tmp 5),none⟩,
          ⟨some 12,.mv (.tmp 0),none⟩,
          ⟨some 13,.len (.tmp 12),none⟩,
          ⟨some 14,.bin .lss (.tmp 11) (.tmp 13),none⟩] [0,1,5,14] []) <|
       .cond (.tmp 14)
         (.skip)
         (.exit 0)) <|
      .seq (.block 1 (
         .seq (.region [⟨some 17,.mv (.tmp 0),none⟩,
            ⟨some 18,.mv (.tmp 5),none⟩,
            ⟨some 19,.idxSl 1 (.tmp 17) (.tmp 18),none⟩,
            ⟨some 20,.load false 1 (.tmp 19),none⟩,
            ⟨some 21,.mv (.tmp 1),none⟩,
            ⟨some 22,.mv (.tmp 5),none⟩,
            ⟨some 23,.idxSl 1 (.tmp 21) (.tmp 22),none⟩,
            ⟨some 24,.load false 1 (.tmp 23),none⟩,
            ⟨some 25,.call (.func g) [(.tmp 20),(.tmp 24)] [],none⟩,
            ⟨some 26,.un .not (.tmp 25),none⟩] [0,1,5,26] [17,18,20,21,19,22,23,24,25,26]) <|
         .cond (.tmp 26)
           (.seq (.region [⟨some 4,.mv (.const (.bool false)),none⟩] [4] []) <|
           .ret)
           (.skip))) <|
      .region [⟨some 15,.mv (.tmp 5),none⟩,
        ⟨some 16,.bin .add (.tmp 15) (.const (.int .i64 (1))),none⟩,
        ⟨some 5,.mv (.tmp 16),none⟩] [0,1,5] []))) <|
 .seq (.region [⟨some 4,.mv (.const (.bool true)),none⟩] [4] []) <|
 .ret
attribute [local go_sem] reduceIte reduceCtorEq Nat.reduceEqDiff in
theorem aLh (hm:P.follows .mixedOrders=true) {f:FuncId}{fn:Func}{g:FuncId}{nt:Nat} (h:cZ P f fn (aGg g)) (hnt:fn.ntmps=nt) (hrs:fn.results.toList=[.tmp 4]) (hna:Nat.ble 2 nt=true)
  (hcb:∀x,zY (d x)=true) {l:List α} (hg:∀x,x∈l->Fn P g [] [d x,d x] (.v (.bool true)) []) (hl:l.length<=1048576) :
  Fn P f [] [.sl 1 (E (λx=>[d x]) l),.sl 1 (E (λx=>[d x]) l)] (.v (.bool true)) []:=by
 refine h.fn0 hm hnt hrs hna λX=>?_;unfold aGg;simp -dsimp only[go_sem];refine aM.intro (bB hm) (λi:{i:Nat // i<=l.length}=>⟨[(0,.sl 1 (E (λx=>[d x]) l)),(1,.sl 1 (E (λx=>[d x]) l)),(5,.v (.int .i64 i.1))],[]⟩) (λi=>l.length-i.1) ⟨0,by omega⟩ ?_ ?_
 .simp[LeL,look]
 .rintro⟨i,hi⟩;simp -dsimp only[go_sem];refine Br.mk (λh1=>?_) λh1=>?_
  .have hlt:i<l.length:=by simpa using h1
   have hw:=aG hlt hl;simp -dsimp only[go_sem];refine RgK.mk rfl ?_;simp -dsimp only[go_sem,aN hlt,aEg (hcb l[i]) _ 7];refine⟨⟨by omega,by omega⟩,⟨by omega,by omega⟩,?_⟩;refine aB.flat (hg _ (Aa hlt)) rfl ?_;simp -dsimp only[go_sem,hw];exact⟨⟨i+1,by omega⟩,by simp[LeL,look],by simp only;omega⟩
  .simp -dsimp only[go_sem];simp
end
section
variable [Envs]
variable {P:Program}
attribute [local irreducible] Fn
end
section
variable [Envs]
theorem xH {α:Type}{f:α->Int->Int}:∀{l:List α}{n:Int},(∀x,x∈l->∀n,0<=n->n<=1048576->0<=f x n->f x n<=n)->0<=n->n<=1048576->0<=wC f l n->∀x,x∈l->∃m,0<=m∧m<=1048576∧0<=f x m
 | [],n,_,_,_,_,x,hx=>by cases hx
 | y::r,n,hf,h0,hn,h,x,hx=>by
  simp only[wC] at h;split at h
  .omega
  .rename_i H;rcases Ap.1 hx with rfl|hx
   .exact⟨n,h0,hn,by omega⟩
   .have h2:=hf y (by simp) n h0 hn (by omega);exact xH (λz F=>hf z (by simp[F])) (by omega) (by omega) h x hx
theorem aEC {α:Type}{f:α->Int->Int}{l:List α}{n:Int} (H:∀x,x∈l->∀n,0<=n->n<=1048576->0<=f x n->f x n<=n) (I:l.length<2 ^ 63) (h0:0<=n) (J:n<=1048576) (h:0<=szL f l n):∀x,x∈l->∃m,0<=m∧m<=1048576∧0<=f x m:=by
 unfold szL at h;split at h
 .omega
 .rename_i F;rw[aR (by omega) (by omega)] at h F;exact xH (n:=n-l.length) H (by omega) (by omega) (by omega)
theorem sG {α:Type}{f:α->Int->Int}{l:List α}{n:Int} (H:∀x,x∈l->∀n,0<=n->n<=1048576->0<=f x n->f x n<=n) (I:l.length<2 ^ 63) (h0:0<=n) (J:n<=1048576) (h:0<=szL f l n):szL f l n<=n∧(l.length:Int)<=n:=by
 refine⟨?_,aHR (f:=f) I ⟨h0,J⟩ (by omega)⟩;have h2:=h;unfold szL at h⊢;split
 .rename_i F;rw[AP F] at h;omega
 .rename_i F;rw[AB F] at h;rw[aR (by omega) (by omega)] at h F⊢;have:=aHT H (by omega) (by omega) h;omega
end
section
variable [Envs]
variable {P:Program}
end
section
variable [Envs]
end
section
variable [Envs]
open Go.ChangeShapes Go.WideShapes Go.ChangeAt Go.RowKit
end
section
variable [Envs]
variable {P:Program}{α:Type}{c:α->List AV}
theorem aB.own {f:FuncId}{ys:List AV}{d:Option Nat}{σ:St}{K:St->Prop}{t:Tag K}{r:AV}{F:List (Option Blk)} (H:Fn P f [] ys r F) (I:kT (d.getD 0) 0 F.length σ=true)
  (J:K ⟨put d (rn (phi [] (d.getD 0) F.length) r) σ.s,zU σ.h [] (d.getD 0) F true []⟩):aB P f [] ys [] d σ [] K t:=
 ⟨r,F,true,H,λh=>(by cases h),I,J⟩
theorem aB.lend {f:FuncId}{ys:List AV}{L:List Name}{d:Option Nat}{σ:St}{K:St->Prop}{t:Tag K}{r:AV}{F:List (Option Blk)} (H:Fn P f [] ys r F) (O:Vs.flat r=true) (U:∀b,some b∈F->Vs.iV b) (I:kT (d.getD 0) 0 F.length σ=true)
  (J:K ⟨put d (rn (phi [] (d.getD 0) F.length) r) σ.s,zU σ.h [] (d.getD 0) F false L⟩):aB P f [] ys L d σ [] K t:=
 ⟨r,F,false,H,λ_=>.inr ⟨O,U⟩,I,J⟩
theorem aB.bor {f:FuncId}{b:Blk}{ys:List AV}{d:Option Nat}{σ:St}{n:Name}{K:St->Prop}{t:Tag K}{r:AV}{F:List (Option Blk)} (H:Fn P f [b] ys r F) (I:kT (d.getD 0) 1 F.length σ=true)
  (J:K ⟨put d (rn (phi [n] (d.getD 0) F.length) r) σ.s,zU σ.h [n] (d.getD 0) F true []⟩):aB P f [b] ys [] d σ [n] K t:=
 ⟨r,F,true,H,λh=>(by cases h),I,J⟩
theorem aIs {k:Nat}{l:List α}{z:Bool} (h:∀x,fJ (c x)=true):iV (.arr k (E c l) z):=by
 intro r F;obtain⟨x,_,rfl⟩:=Bq.1 F;exact h x
attribute [local go_sem] reduceIte reduceCtorEq Nat.reduceEqDiff in
theorem aHP (hm:P.follows .mixedOrders=true) {f:FuncId}{fn:Func}{k y:Nat}{z:List AV}{g:FuncId}{nt:Nat} (h:cZ P f fn (aAv k y z g)) (hnt:fn.ntmps=nt) (hrs:fn.results.toList=[.tmp 2]) (hna:Nat.ble 1 nt=true)
  (hk:∀x,(c x).length=k) (hk0:0<k) (hz:z.length=k) (hzz:aHG z=true) (hcb:∀x,dS (c x)=true) {l:List α} (hg:∀x,x∈l->Fn P g [] [.agg (c x)] (.agg (c x)) []) (hl:l.length<=1048576) (hy:y<=1024) :
  Fn P f [] [.sl k (E c l)] (.loc (.b 0) 0 l.length) [some (.arr k (E c l) false)]:=by
 refine h.fn hm (hin:=[]) nt _ [.t 7 0] [.arr k (E c l) false] hnt hrs rfl (by simpa using Bc hna) rfl (by simp) λX=>?_;unfold aAv;simp -dsimp only[go_sem]
 have hly:(l.length:Int)*(y:Int)<=2 ^ 47:=by
  have h1:l.length*y<=1048576*1024:=Nat.mul_le_mul hl hy;have h2:((l.length*y:Nat):Int)<=((1048576*1024:Nat):Int):=Int.ofNat_le.2 h1;rw[Int.natCast_mul] at h2;omega
 refine⟨⟨by omega,hly,by omega,hz,by have:=aCr hzz (λ_=>none);simpa -dsimp only[go_sem] using this⟩,?_⟩
 refine aM.intro (bB hm) (λi:{i:Nat // i<=l.length}=>⟨[(0,.sl k (E c l)),(3,.loc (.t 7 0) 0 l.length),(4,.v (.int .i64 i.1))],
   [(.t 7 0,.arr k (E c (l.take i.1)++List.replicate (l.length-i.1) z) false)]⟩) (λi=>l.length-i.1) ⟨0,by omega⟩ ?_ ?_
 .simp[LeL,look,aA,E]
 .rintro⟨i,hi⟩;simp -dsimp only[go_sem];refine Br.mk (λh1=>?_) λh1=>?_
  .have hlt:i<l.length:=by simpa using h1
   have hw:=aG hlt hl;have ht:(c l[i]).take k=c l[i]:=Aj (by rw[hk];exact Ar _);simp -dsimp only[go_sem,aN hlt,ht,aF (hcb l[i]) _ 6];refine⟨⟨by omega,by omega⟩,by rw[hk];exact Ar _,?_⟩;refine aB.pure (hg _ (Aa hlt)) ?_;simp -dsimp only[go_sem,aFE (hcb l[i]),aDv hlt,aIJ (hcb l[i])];refine⟨⟨by omega,by omega⟩,⟨hk0,hk _,by rw[hz];exact Ar _,aEk (hcb _)⟩,?_⟩;have e:=aGD (c:=c) hlt (x:=lay z 0 (c l[i])) (aBr (by rw[hz,hk])) z;simp -dsimp only[go_sem,hw,e];exact⟨⟨i+1,by omega⟩,by simp[LeL,look,aA],by simp only;omega⟩
  .have hge:i=l.length:=by
    have:¬i<l.length:=by simpa using h1
    omega
   subst hge;simp -dsimp only[go_sem,aGE];exact⟨⟨_,_,rfl,rfl⟩,by simp⟩
attribute [local go_sem] reduceIte reduceCtorEq Nat.reduceEqDiff in
theorem aLP (hm:P.follows .mixedOrders=true) {f:FuncId}{fn:Func}{nt:Nat} (h:cZ P f fn aAw) (hnt:fn.ntmps=nt) (hrs:fn.results.toList=[.tmp 2]) (hna:Nat.ble 1 nt=true)
  {l:List Int} (hl:l.length<=1048576):Fn P f [] [.sl 1 (E cI l)] (.loc (.b 0) 0 l.length) [some (.arr 1 (E cI l) false)]:=by
 refine h.fn hm (hin:=[]) nt _ [.t 7 0] [.arr 1 (E cI l) false] hnt hrs rfl (by simpa using Bc hna) rfl (by simp) λX=>?_;unfold aAw;simp -dsimp only[go_sem];refine⟨⟨by omega,by omega,by omega⟩,?_⟩
 refine aM.intro (bB hm) (λi:{i:Nat // i<=l.length}=>⟨[(0,.sl 1 (E cI l)),(3,.loc (.t 7 0) 0 l.length),(4,.v (.int .i64 i.1))],
   [(.t 7 0,.arr 1 (E cI (l.take i.1)++List.replicate (l.length-i.1) [.v (.int .i64 0)]) false)]⟩) (λi=>l.length-i.1) ⟨0,by omega⟩ ?_ ?_
 .simp[LeL,look,aA,E]
 .rintro⟨i,hi⟩;simp -dsimp only[go_sem];refine Br.mk (λh1=>?_) λh1=>?_
  .have hlt:i<l.length:=by simpa using h1
   have hw:=aG hlt hl;simp -dsimp only[go_sem,dJ hlt,aDv hlt,hw];have e:=aGD (c:=cI) hlt (x:=[.v (.int .i64 l[i])]) rfl [.v (.int .i64 0)];rw[e];exact⟨⟨by omega,by omega⟩,⟨by omega,by omega⟩,by omega,⟨i+1,by omega⟩,by simp[LeL,look,aA],by simp only;omega⟩
  .have hge:i=l.length:=by
    have:¬i<l.length:=by simpa using h1
    omega
   subst hge;simp -dsimp only[go_sem,aGE];exact⟨⟨_,_,rfl,rfl⟩,by simp⟩
def mkR (m:Nat->α) (l:List α) (i:Nat):List α:=(List.range i).map m++l.drop i
theorem aCX (m:Nat->α) (l:List α):mkR m l 0=l:=by simp[mkR]
theorem aIc (m:Nat->α) (l:List α):mkR m l l.length=(List.range l.length).map m:=by simp[mkR]
theorem iH (m:Nat->α) (l:List α) {i:Nat} (h:i<=l.length):(mkR m l i).length=l.length:=by simp[mkR];omega
theorem aES (m:Nat->α) (l:List α) {i:Nat} (h:i<l.length):(E c (mkR m l i)).getD i []=c l[i]:=by
 rw[aN (by rw[iH m l (by omega)];exact h)];simp[mkR]
theorem aER (m:Nat->α) (l:List α) {i:Nat} (h:i<l.length):(E c (mkR m l i)).set i (c (m i))=E c (mkR m l (i+1)):=by
 have e:(mkR m l i).set i (m i)=mkR m l (i+1):=by
  apply List.ext_getElem
  .rw[Am,iH m l (by omega),iH m l (by omega)]
  .intro j F h2;rw[Am,iH m l (by omega)] at F;rw[List.getElem_set];split
   .rename_i e;subst e;simp[mkR,List.getElem_append]
   .simp only[mkR,List.getElem_append,Bg,List.length_range,DF,List.getElem_range,List.getElem_drop];split<;>split
    .rfl
    .omega
    .omega
    .congr 1;omega
 rw[←e];simp[E,De]
theorem aHX {R:List (List AV)}{i:Nat} (h:i<R.length) (r:List AV):(R.set i r).getD i []=r:=by
 simp[List.getD,List.getElem?_set,h]
theorem aB5 {K F:St->Prop} (H:∀σ,K σ->F σ):∀(ops:List aI) (σ:St),vc P K ops σ->vc P F ops σ
 | [],σ,hv=>H σ hv
 |_::r,_,hv=>aEu.2 (aAs (fun σ' h=>aB5 H r σ' h) (aEu.1 hv))
end
end Go.Vs
