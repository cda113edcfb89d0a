/- A contract of the library's, as this framework has contracts. -/
import Derived.Test.YtmiiohemehacjaaGreatDoorVtK
import Derived.Sort.Grow
import Derived.Deep.Draws
set_option linter.all false
set_option maxHeartbeats 8000000
namespace Go.Vs
section
variable [Envs]
variable {P:Program}{α:Type}{d:α->AV}
attribute [local irreducible] Fn
theorem aD5 {x:AV} (F:zK x=true) (h:Name->Option Blk) (m:Nat) (E:List Name) (b:Bool):conv h (m+1) E b x=some (x,[]):=by
 grind [zK,AV,conv]
def aFb (g:FuncId):aF:=
 .seq (.region [⟨some 4,.mv (.const (.int .i64 (0))),none⟩] [0,1] []) <|
 .seq (.region [⟨some 6,.mv (.tmp 1),none⟩,
    ⟨some 7,.mv (.tmp 0),none⟩,
    ⟨some 8,.len (.tmp 7),none⟩,
    ⟨some 9,.bin .sub (.tmp 6) (.tmp 8),none⟩,
    ⟨some 1,.mv (.tmp 9),none⟩] [0,1] []) <|
 .seq (.seq (.region [⟨some 10,.mv (.tmp 1),none⟩,
     ⟨some 11,.bin .lss (.tmp 10) (.const (.int .i64 (0))),none⟩] [0,1,11] []) <|
  .cond (.tmp 11)
    (.seq (.region [⟨some 4,.mv (.const (.int .i64 (-1))),none⟩] [4] []) <|
    .ret)
    (.skip)) <|
 .seq (.seq (.region [⟨some 5,.mv (.const (.int .i64 (0))),none⟩] [0,1,5] []) <|
  .block 0 (
    .loop (
      .seq (.seq (.region [⟨some 12,.mv (.tmp 5),none⟩,
          ⟨some 13,.mv (.tmp 0),none⟩,
          ⟨some 14,.len (.tmp 13),none⟩,
          ⟨some 15,.bin .lss (.tmp 12) (.tmp 14),none⟩] [0,1,5,15] []) <|
       .cond (.tmp 15)
         (.skip)
         (.exit 0)) <|
      .seq (.block 1 (
         .seq (.region [⟨some 18,.mv (.tmp 0),none⟩,
            ⟨some 19,.mv (.tmp 5),none⟩,
            ⟨some 20,.idxSl 1 (.tmp 18) (.tmp 19),none⟩,
            ⟨some 21,.load false 1 (.tmp 20),none⟩,
            ⟨some 22,.mv (.tmp 1),none⟩,
            ⟨some 23,.call (.func g) [(.tmp 21),(.tmp 22)] [],none⟩,
            ⟨some 1,.mv (.tmp 23),none⟩] [0,1,5] []) <|
         .seq (.region [⟨some 24,.mv (.tmp 1),none⟩,
            ⟨some 25,.bin .lss (.tmp 24) (.const (.int .i64 (0))),none⟩] [0,1,5,25] []) <|
         .cond (.tmp 25)
           (.seq (.region [⟨some 4,.mv (.const (.int .i64 (-1))),none⟩] [4] []) <|
           .ret)
           (.skip))) <|
      .region [⟨some 16,.mv (.tmp 5),none⟩,
        ⟨some 17,.bin .add (.tmp 16) (.const (.int .i64 (1))),none⟩,
        ⟨some 5,.mv (.tmp 17),none⟩] [0,1,5] []))) <|
 .seq (.region [⟨some 26,.mv (.tmp 1),none⟩,
    ⟨some 4,.mv (.tmp 26),none⟩] [4] []) <|
 .ret
attribute [local go_sem] reduceIte reduceCtorEq Nat.reduceEqDiff in
theorem aJG (hm:P.follows .mixedOrders=true) {f:FuncId}{fn:Func}{g:FuncId}{nt:Nat} (h:bW P f fn (aFb g)) (hnt:fn.ntmps=nt) (hrs:fn.results.toList=[.tmp 4]) (hna:Nat.ble 2 nt=true)
  (φ:α->Int->Int) (hcb:∀x,zK (d x)=true) {l:List α} (hg:∀x,x∈l->∀n,0<=n->n<=1048576->Fn P g [] [d x,.v (.int .i64 n)] (.v (.int .i64 (φ x n))) []) (hφ:∀x,x∈l->∀n,0<=n->n<=1048576->0<=φ x n->φ x n<=n) (n:Int) (hl:l.length<2 ^ 63) (hn:0<=n∧n<=1048576) :
  Fn P f [] [.sl 1 (E (λx=>[d x]) l),.v (.int .i64 n)] (.v (.int .i64 (szL φ l n))) []:=by
 refine h.fn0 hm hnt hrs hna λX=>?_;unfold aFb;simp -dsimp only[go_sem];refine Br.mk (λh0=>?_) λh0=>?_
 .simp -dsimp only[go_sem];simp only[decide_eq_true_eq] at h0;simp[szL,h0]
 .simp -dsimp only[go_sem];simp only[decide_eq_false_iff_not] at h0;have hW:=h0;rw[aO (by omega) (by omega)] at hW
  refine aN.intro (bZ hm) (λx:{p:Nat×Int // p.1<=l.length∧(0<=p.2∧p.2<=1048576)∧vX φ (l.drop p.1) p.2=szL φ l n}=>⟨[(0,.sl 1 (E (λx=>[d x]) l)),(1,.v (.int .i64 x.1.2)),(5,.v (.int .i64 x.1.1))],[]⟩) (λx=>l.length-x.1.1)
   ⟨(0,IntKind.i64.wrap (n-l.length)),by simp,⟨by omega,by rw[aO (by omega) (by omega)];omega⟩,by simp[szL,h0]⟩ ?_ ?_
  .simp[LeL,look]
  .rintro⟨⟨i,m⟩,hi,hm',hP⟩;simp only at hi hm' hP;simp -dsimp only[go_sem];refine Br.mk (λh1=>?_) λh1=>?_
   .have hlt:i<l.length:=by simpa using h1
    have hw:=aH hlt (by omega);simp -dsimp only[go_sem,aQ hlt];refine⟨⟨by omega,by omega⟩,?_⟩;simp -dsimp only[go_sem,aD5 (hcb l[i]) _ 7];refine aD.flat (hg _ (List.getElem_mem hlt) _ hm'.1 hm'.2) rfl ?_;simp -dsimp only[go_sem];rw[aDF φ m hlt] at hP;refine Br.mk (λh2=>?_) λh2=>?_
    .simp -dsimp only[go_sem];simp only[decide_eq_true_eq] at h2;rw[if_pos h2] at hP;simp[←hP]
    .simp -dsimp only[go_sem,hw];simp only[decide_eq_false_iff_not] at h2;rw[if_neg h2] at hP;have hle:=hφ l[i] (List.getElem_mem hlt) m hm'.1 hm'.2 (by omega);exact⟨⟨(i+1,φ l[i] m),by simp only;omega,by simp only;omega,hP⟩,by simp[LeL,look],by simp only;omega⟩
   .have hge:i=l.length:=by
     grind
    subst hge;simp -dsimp only[go_sem];rw[aFe] at hP;simp[hP]
def aE6 (y:Nat) (z:List AV) (g:FuncId):aF:=
 .seq (.region [⟨some 2,.mv (.const (.slice none 0 0)),none⟩] [0] []) <|
 .seq (.region [⟨some 5,.mv (.tmp 0),none⟩,
    ⟨some 6,.len (.tmp 5),none⟩,
    ⟨some 7,.mk 1 y z (.tmp 6),none⟩,
    ⟨some 3,.mv (.tmp 7),none⟩] [0,3] []) <|
 .seq (.seq (.region [⟨some 4,.mv (.const (.int .i64 (0))),none⟩] [0,3,4] []) <|
  .block 0 (
    .loop (
      .seq (.seq (.region [⟨some 8,.mv (.tmp 4),none⟩,
          ⟨some 9,.mv (.tmp 0),none⟩,
          ⟨some 10,.len (.tmp 9),none⟩,
          ⟨some 11,.bin .lss (.tmp 8) (.tmp 10),none⟩] [0,3,4,11] []) <|
       .cond (.tmp 11)
         (.skip)
         (.exit 0)) <|
      .seq (.block 1 (
         .region [⟨some 14,.mv (.tmp 3),none⟩,
           ⟨some 15,.mv (.tmp 4),none⟩,
           ⟨some 16,.mv (.tmp 0),none⟩,
           ⟨some 17,.mv (.tmp 4),none⟩,
           ⟨some 18,.idxSl 1 (.tmp 16) (.tmp 17),none⟩,
           ⟨some 19,.load false 1 (.tmp 18),none⟩,
           ⟨some 20,.call (.func g) [(.tmp 19)] [],none⟩,
           ⟨some 21,.idxSl 1 (.tmp 14) (.tmp 15),none⟩,
           ⟨none,.store 1 (.tmp 21) (.tmp 20),none⟩] [0,3,4] [])) <|
      .region [⟨some 12,.mv (.tmp 4),none⟩,
        ⟨some 13,.bin .add (.tmp 12) (.const (.int .i64 (1))),none⟩,
        ⟨some 4,.mv (.tmp 13),none⟩] [0,3,4] []))) <|
 .seq (.region [⟨some 22,.mv (.tmp 3),none⟩,
    ⟨some 2,.mv (.tmp 22),none⟩] [2] []) <|
 .ret
attribute [local go_sem] reduceIte reduceCtorEq Nat.reduceEqDiff in
theorem aJA (hm:P.follows .mixedOrders=true) {f:FuncId}{fn:Func}{y:Nat}{z:List AV}{g:FuncId}{nt:Nat} (h:bW P f fn (aE6 y z g)) (hnt:fn.ntmps=nt) (hrs:fn.results.toList=[.tmp 2]) (hna:Nat.ble 1 nt=true)
  (hz:z.length=1) (hzz:aHv z=true) (hcs:∀x,∃k r,d x=.sl k r) {l:List α} (hg:∀x,x∈l->Fn P g [] [d x] (d x) []) (hl:l.length<=1048576) (hy:y<=1024) :
  Fn P f [] [.sl 1 (E (λx=>[d x]) l)] (.sl 1 (E (λx=>[d x]) l)) []:=by
 refine h.fn0 hm hnt hrs hna λX=>?_;unfold aE6;simp -dsimp only[go_sem]
 have hly:(l.length:Int)*(y:Int)<=2 ^ 47:=by
  have h1:l.length*y<=1048576*1024:=Nat.mul_le_mul hl hy
  all_goals grind
 refine⟨⟨by omega,hly,by omega,hz,by have:=aCk hzz (λ_=>none);simpa -dsimp only[go_sem] using this⟩,?_⟩
 refine aN.intro (bZ hm) (λi:{i:Nat // i<=l.length}=>⟨[(0,.sl 1 (E (λx=>[d x]) l)),(3,.loc (.t 7 0) 0 l.length),(4,.v (.int .i64 i.1))],
   [(.t 7 0,.arr 1 (E (λx=>[d x]) (l.take i.1)++List.replicate (l.length-i.1) z) false)]⟩) (λi=>l.length-i.1) ⟨0,by omega⟩ ?_ ?_
 .simp[LeL,look,aB,E]
 .rintro⟨i,hi⟩;simp -dsimp only[go_sem];refine Br.mk (λh1=>?_) λh1=>?_
  .have hlt:i<l.length:=by simpa using h1
   have hw:=aH hlt hl;have e:=aGt (c:=λx=>[d x]) hlt (x:=lay z 0 [d l[i]]) (aBb (by rw[hz];rfl)) z;have hgi:=hg _ (List.getElem_mem hlt);have hgl:=aQ (c:=λx=>[d x]) hlt;obtain⟨k,r,hv⟩:=hcs l[i]
   all_goals
    rw[hv] at hgi;simp only[hv] at e hgl;simp -dsimp only[go_sem,hgl];refine⟨⟨by omega,by omega⟩,?_⟩;refine aD.pure hgi ?_;simp -dsimp only[go_sem,aDn hlt];refine⟨⟨by omega,by omega⟩,⟨by omega,by rw[hz];exact Nat.le_refl _⟩,?_⟩;simp -dsimp only[go_sem,hw];simp -dsimp only[go_sem] at e;simp only[e];exact⟨⟨i+1,by omega⟩,by simp[LeL,look,aB],by simp only;omega⟩
  .have hge:i=l.length:=by
    grind
   subst hge;simp -dsimp only[go_sem,aGu];simp
def aF8 (g:FuncId):aF:=
 .seq (.region [⟨some 4,.mv (.const (.bool false)),none⟩] [0,1] []) <|
 .seq (.seq (.region [⟨some 6,.mv (.tmp 0),none⟩,
     ⟨some 7,.len (.tmp 6),none⟩,
     ⟨some 8,.mv (.tmp 1),none⟩,
     ⟨some 9,.len (.tmp 8),none⟩,
     ⟨some 10,.bin .neq (.tmp 7) (.tmp 9),none⟩] [0,1,10] []) <|
  .cond (.tmp 10)
    (.seq (.region [⟨some 4,.mv (.const (.bool false)),none⟩] [4] []) <|
    .ret)
    (.skip)) <|
 .seq (.seq (.region [⟨some 5,.mv (.const (.int .i64 (0))),none⟩] [0,1,5] []) <|
  .block 0 (
    .loop (
      .seq (.seq (.region [⟨some 11,.mv (.tmp 5),none⟩,
          ⟨some 12,.mv (.tmp 0),none⟩,
          ⟨some 13,.len (.tmp 12),none⟩,
          ⟨some 14,.bin .lss (.tmp 11) (.tmp 13),none⟩] [0,1,5,14] []) <|
       .cond (.tmp 14)
         (.skip)
         (.exit 0)) <|
      .seq (.block 1 (
         .seq (.region [⟨some 17,.mv (.tmp 0),none⟩,
            ⟨some 18,.mv (.tmp 5),none⟩,
            ⟨some 19,.idxSl 1 (.tmp 17) (.tmp 18),none⟩,
            ⟨some 20,.load false 1 (.tmp 19),none⟩,
            ⟨some 21,.mv (.tmp 1),none⟩,
            ⟨some 22,.mv (.tmp 5),none⟩,
            ⟨some 23,.idxSl 1 (.tmp 21) (.tmp 22),none⟩,
            ⟨some 24,.load false 1 (.tmp 23),none⟩,
            ⟨some 25,.call (.func g) [(.tmp 20),(.tmp 24)] [],none⟩,
            ⟨some 26,.un .not (.tmp 25),none⟩] [0,1,5,26] [17,18,20,21,19,22,23,24,25,26]) <|
         .cond (.tmp 26)
           (.seq (.region [⟨some 4,.mv (.const (.bool false)),none⟩] [4] []) <|
           .ret)
           (.skip))) <|
      .region [⟨some 15,.mv (.tmp 5),none⟩,
        ⟨some 16,.bin .add (.tmp 15) (.const (.int .i64 (1))),none⟩,
        ⟨some 5,.mv (.tmp 16),none⟩] [0,1,5] []))) <|
 .seq (.region [⟨some 4,.mv (.const (.bool true)),none⟩] [4] []) <|
 .ret
attribute [local go_sem] reduceIte reduceCtorEq Nat.reduceEqDiff in
theorem aKR (hm:P.follows .mixedOrders=true) {f:FuncId}{fn:Func}{g:FuncId}{nt:Nat} (h:bW P f fn (aF8 g)) (hnt:fn.ntmps=nt) (hrs:fn.results.toList=[.tmp 4]) (hna:Nat.ble 2 nt=true)
  (hcb:∀x,zK (d x)=true) {l:List α} (hg:∀x,x∈l->Fn P g [] [d x,d x] (.v (.bool true)) []) (hl:l.length<=1048576) :
  Fn P f [] [.sl 1 (E (λx=>[d x]) l),.sl 1 (E (λx=>[d x]) l)] (.v (.bool true)) []:=by
 refine h.fn0 hm hnt hrs hna λX=>?_;unfold aF8;simp -dsimp only[go_sem];refine aN.intro (bZ hm) (λi:{i:Nat // i<=l.length}=>⟨[(0,.sl 1 (E (λx=>[d x]) l)),(1,.sl 1 (E (λx=>[d x]) l)),(5,.v (.int .i64 i.1))],[]⟩) (λi=>l.length-i.1) ⟨0,by omega⟩ ?_ ?_
 .simp[LeL,look]
 .rintro⟨i,hi⟩;simp -dsimp only[go_sem];refine Br.mk (λh1=>?_) λh1=>?_
  .have hlt:i<l.length:=by simpa using h1
   have hw:=aH hlt hl;simp -dsimp only[go_sem];refine RgK.mk rfl ?_;simp -dsimp only[go_sem,aQ hlt,aD5 (hcb l[i]) _ 7];refine⟨⟨by omega,by omega⟩,⟨by omega,by omega⟩,?_⟩;refine aD.flat (hg _ (List.getElem_mem hlt)) rfl ?_;simp -dsimp only[go_sem,hw];exact⟨⟨i+1,by omega⟩,by simp[LeL,look],by simp only;omega⟩
  .simp -dsimp only[go_sem];simp
end
section
variable [Envs]
variable {P:Program}
attribute [local irreducible] Fn
end
section
variable [Envs]
theorem xC {α:Type}{f:α->Int->Int}:∀{l:List α}{n:Int},(∀x,x∈l->∀n,0<=n->n<=1048576->0<=f x n->f x n<=n)->0<=n->n<=1048576->0<=vX f l n->∀x,x∈l->∃m,0<=m∧m<=1048576∧0<=f x m
 | [],n,_,_,_,_,x,hx=>by cases hx
 | y::r,n,hf,h0,hn,h,x,hx=>by
  simp only[vX] at h;split at h
  .omega
  .rename_i H;rcases List.mem_cons.1 hx with rfl|hx
   .exact⟨n,h0,hn,by omega⟩
   .have h2:=hf y (by simp) n h0 hn (by omega);exact xC (λz F=>hf z (by simp[F])) (by omega) (by omega) h x hx
theorem aEs {α:Type}{f:α->Int->Int}{l:List α}{n:Int} (H:∀x,x∈l->∀n,0<=n->n<=1048576->0<=f x n->f x n<=n) (J:l.length<2 ^ 63) (I:0<=n) (L:n<=1048576) (h:0<=szL f l n):∀x,x∈l->∃m,0<=m∧m<=1048576∧0<=f x m:=by
 unfold szL at h;split at h
 .omega
 .rename_i F;rw[aO (by omega) (by omega)] at h F;exact xC (n:=n-l.length) H (by omega) (by omega) (by omega)
theorem rD {α:Type}{f:α->Int->Int}{l:List α}{n:Int} (I:∀x,x∈l->∀n,0<=n->n<=1048576->0<=f x n->f x n<=n) (J:l.length<2 ^ 63) (H:0<=n) (L:n<=1048576) (h:0<=szL f l n):szL f l n<=n∧(l.length:Int)<=n:=by
 refine⟨?_,aHF (f:=f) J ⟨H,L⟩ (by omega)⟩;have h2:=h;unfold szL at h⊢;split
 .rename_i F;rw[if_pos F] at h;omega
 .rename_i F;rw[if_neg F] at h;rw[aO (by omega) (by omega)] at h F⊢;have:=aHH I (by omega) (by omega) h;omega
end
section
variable [Envs]
variable {P:Program}
theorem Fn.of_ext {f:FuncId}{args:List AV}{x:AV} (F:jL P f)
  (h : ∀(S:Nat->Prop) (w:World) (vs:Array Value),Env S w->vs.size=args.length->(∀j,j<args.length->RV S w (λ_=>none) (λ_=>0) (Hn []) (args.getD j .junk) (vs.getD j undef))->
    Calls P f vs w λe w'=>∃v,e=.returned v∧RC S w' x v∧Ext w w'):Fn P f [] args x []:=by
 refine⟨F,λS w ρ κ vs H _ L I=>?_⟩;have U:Hn (([]:List Blk).map some)=Hn []:=rfl;refine(h S w vs H.env L λj J=>?_).mono ?_
 .refine(I j J).mono (λ_ h=>h) (λ_ _=>rfl) λn _ b F=>?_;cases n<;>simp[Hn] at F
 .rintro e w' ⟨v,rfl,hv,hx⟩;refine⟨v,S,ρ,κ,rfl,⟨⟨λn b F=>?_,λn m y O=>?_,λb F=>Nat.lt_of_lt_of_le (H.dom b F) hx.1,H.env.mono (λ_ h=>h) λb F=>hx.2.1 b (H.dom b F)⟩,hx.1,λb F _=>hx.2.1 b F,λ_ h=>h,λb F=>.inl F,λj z J=>?_,hx.2.2,λj b J=>?_⟩,.clo hv⟩
  .cases n<;>simp[Hn] at F
  .cases n<;>simp[Hn] at O
  .simp at J
  .simp at J
theorem aKP (w:World) (k:Nat) (os:Array Obj):Ext w (Go.Sort.grow (w.drewN k) os):=by
 refine⟨by simp[Go.Sort.grow,World.drewN],λb F=>?_,rfl,rfl⟩;simp[Go.Sort.grow,World.drewN,Array.getElem?_append,F]
end
end Go.Vs
