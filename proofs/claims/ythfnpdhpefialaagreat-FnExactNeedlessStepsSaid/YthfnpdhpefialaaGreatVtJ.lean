/- Lists of numbers: size, copy, comparison. -/
import Derived.Test.YthfnpdhpefialaaGreatVtF
set_option linter.all false
set_option maxHeartbeats 8000000
namespace Go.Vs
section
variable [Envs]
variable {P:Program}{α:Type}{c:α→List AV}
attribute [local irreducible] Fn
def szS_code (k:Nat) (g:FuncId):ACode:=
 .seq (.region [⟨some 4,.mv (.const (.int .i64 (0))),none⟩] [0,1] []) <|
 .seq (.region [⟨some 6,.mv (.tmp 1),none⟩,
    ⟨some 7,.mv (.tmp 0),none⟩,
    ⟨some 8,.len (.tmp 7),none⟩,
    ⟨some 9,.bin .sub (.tmp 6) (.tmp 8),none⟩,
    ⟨some 1,.mv (.tmp 9),none⟩] [0,1] []) <|
 .seq (.seq (.region [⟨some 10,.mv (.tmp 1),none⟩,
     ⟨some 11,.bin .lss (.tmp 10) (.const (.int .i64 (0))),none⟩] [0,1,11] []) <|
  .cond (.tmp 11)
    (.seq (.region [⟨some 4,.mv (.const (.int .i64 (-1))),none⟩] [4] []) <|
    .ret)
    (.skip)) <|
 .seq (.seq (.region [⟨some 5,.mv (.const (.int .i64 (0))),none⟩] [0,1,5] []) <|
  .block 0 (
    .loop (
      .seq (.seq (.region [⟨some 12,.mv (.tmp 5),none⟩,
          ⟨some 13,.mv (.tmp 0),none⟩,
          ⟨some 14,.len (.tmp 13),none⟩,
          ⟨some 15,.bin .lss (.tmp 12) (.tmp 14),none⟩] [0,1,5,15] []) <|
       .cond (.tmp 15)
         (.skip)
         (.exit 0)) <|
      .seq (.block 1 (
         .seq (.region [⟨some 18,.mv (.tmp 0),none⟩,
            ⟨some 19,.mv (.tmp 5),none⟩,
            ⟨some 20,.idxSl k (.tmp 18) (.tmp 19),none⟩,
            ⟨some 21,.load true k (.tmp 20),none⟩,
            ⟨some 22,.mv (.tmp 1),none⟩,
            ⟨some 23,.call (.func g) [(.tmp 21),(.tmp 22)] [],none⟩,
            ⟨some 1,.mv (.tmp 23),none⟩] [0,1,5] []) <|
         .seq (.region [⟨some 24,.mv (.tmp 1),none⟩,
            ⟨some 25,.bin .lss (.tmp 24) (.const (.int .i64 (0))),none⟩] [0,1,5,25] []) <|
         .cond (.tmp 25)
           (.seq (.region [⟨some 4,.mv (.const (.int .i64 (-1))),none⟩] [4] []) <|
           .ret)
           (.skip))) <|
      .region [⟨some 16,.mv (.tmp 5),none⟩,
        ⟨some 17,.bin .add (.tmp 16) (.const (.int .i64 (1))),none⟩,
        ⟨some 5,.mv (.tmp 17),none⟩] [0,1,5] []))) <|
 .seq (.region [⟨some 26,.mv (.tmp 1),none⟩,
    ⟨some 4,.mv (.tmp 26),none⟩] [4] []) <|
 .ret
attribute [local go_sem] reduceIte reduceCtorEq Nat.reduceEqDiff in
theorem szS_fn (hm:P.follows .mixedOrders=true) {f:FuncId}{fn:Func}{k:Nat}{g:FuncId}{nt:Nat} (h:CodeIsR P f fn (szS_code k g)) (hnt:fn.ntmps=nt) (hrs:fn.results.toList=[.tmp 4]) (hna:Nat.ble 2 nt=true)
  (φ:α→Int→Int) (hk:∀x,(c x).length=k) (hcb:∀x,cellsB (c x)=true) {l:List α} (hg:∀x,x∈l→∀n,0≤n→n≤1048576→Fn P g [] [.agg (c x),.v (.int .i64 n)] (.v (.int .i64 (φ x n))) []) (hφ:∀x,x∈l→∀n,0≤n→n≤1048576→0≤φ x n→φ x n≤n) (n:Int) (hl:l.length<2 ^ 63) (hn:0≤n∧n≤1048576) :
  Fn P f [] [.sl k (E c l),.v (.int .i64 n)] (.v (.int .i64 (szL φ l n))) []:=by
 refine h.fn0 hm hnt hrs hna fun X=>?_
 unfold szS_code
 simp -dsimp only[go_sem]
 refine Br.mk (fun h0=>?_) fun h0=>?_
 ·simp -dsimp only[go_sem]
  simp only[decide_eq_true_eq] at h0
  simp[szL,h0]
 ·simp -dsimp only[go_sem]
  simp only[decide_eq_false_iff_not] at h0
  have hW:=h0
  rw[wrap_in (by omega) (by omega)] at hW
  refine LoopK.intro (drawn_ok hm) (fun x:{p:Nat×Int // p.1≤l.length∧(0≤p.2∧p.2≤1048576)∧szGo φ (l.drop p.1) p.2=szL φ l n}=>⟨[(0,.sl k (E c l)),(1,.v (.int .i64 x.1.2)),(5,.v (.int .i64 x.1.1))],[]⟩) (fun x=>l.length-x.1.1)
   ⟨(0,IntKind.i64.wrap (n-l.length)),by simp,⟨by omega,by rw[wrap_in (by omega) (by omega)];omega⟩,by simp[szL,h0]⟩ ?_ ?_
  ·simp[LeL,look]
  ·rintro⟨⟨i,m⟩,hi,hm',hP⟩
   simp only at hi hm' hP
   simp -dsimp only[go_sem]
   refine Br.mk (fun h1=>?_) fun h1=>?_
   ·have hlt:i<l.length:=by simpa using h1
    have hw:=wrap_succ hlt (by omega)
    simp -dsimp only[go_sem,E_get hlt]
    refine⟨⟨by omega,by omega⟩,by rw[hk];exact Nat.le_refl _,?_⟩
    have ht:(c l[i]).take k=c l[i]:=List.take_of_length_le (by rw[hk];exact Nat.le_refl _)
    simp -dsimp only[go_sem,ht,conv_cells (hcb l[i]) _ 6]
    refine CallK.flat (hg _ (List.getElem_mem hlt) _ hm'.1 hm'.2) rfl ?_
    simp -dsimp only[go_sem]
    rw[szGo_step φ m hlt] at hP
    refine Br.mk (fun h2=>?_) fun h2=>?_
    ·simp -dsimp only[go_sem]
     simp only[decide_eq_true_eq] at h2
     rw[if_pos h2] at hP
     simp[←hP]
    ·simp -dsimp only[go_sem,hw]
     simp only[decide_eq_false_iff_not] at h2
     rw[if_neg h2] at hP
     have hle:=hφ l[i] (List.getElem_mem hlt) m hm'.1 hm'.2 (by omega)
     exact⟨⟨(i+1,φ l[i] m),by simp only;omega,by simp only;omega,hP⟩,by simp[LeL,look],by simp only;omega⟩
   ·have hge:i=l.length:=by
     have:¬i<l.length:=by simpa using h1
     omega
    subst hge
    simp -dsimp only[go_sem]
    rw[szGo_end] at hP
    simp[hP]
def toS_code (k y:Nat) (z:List AV) (g:FuncId):ACode:=
 .seq (.region [⟨some 2,.mv (.const (.slice none 0 0)),none⟩] [0] []) <|
 .seq (.region [⟨some 5,.mv (.tmp 0),none⟩,
    ⟨some 6,.len (.tmp 5),none⟩,
    ⟨some 7,.mk k y z (.tmp 6),none⟩,
    ⟨some 3,.mv (.tmp 7),none⟩] [0,3] []) <|
 .seq (.seq (.region [⟨some 4,.mv (.const (.int .i64 (0))),none⟩] [0,3,4] []) <|
  .block 0 (
    .loop (
      .seq (.seq (.region [⟨some 8,.mv (.tmp 4),none⟩,
          ⟨some 9,.mv (.tmp 0),none⟩,
          ⟨some 10,.len (.tmp 9),none⟩,
          ⟨some 11,.bin .lss (.tmp 8) (.tmp 10),none⟩] [0,3,4,11] []) <|
       .cond (.tmp 11)
         (.skip)
         (.exit 0)) <|
      .seq (.block 1 (
         .region [⟨some 14,.mv (.tmp 3),none⟩,
           ⟨some 15,.mv (.tmp 4),none⟩,
           ⟨some 16,.mv (.tmp 0),none⟩,
           ⟨some 17,.mv (.tmp 4),none⟩,
           ⟨some 18,.idxSl k (.tmp 16) (.tmp 17),none⟩,
           ⟨some 19,.load true k (.tmp 18),none⟩,
           ⟨some 20,.call (.func g) [(.tmp 19)] [],none⟩,
           ⟨some 21,.idxSl k (.tmp 14) (.tmp 15),none⟩,
           ⟨none,.store k (.tmp 21) (.tmp 20),none⟩] [0,3,4] [])) <|
      .region [⟨some 12,.mv (.tmp 4),none⟩,
        ⟨some 13,.bin .add (.tmp 12) (.const (.int .i64 (1))),none⟩,
        ⟨some 4,.mv (.tmp 13),none⟩] [0,3,4] []))) <|
 .seq (.region [⟨some 22,.mv (.tmp 3),none⟩,
    ⟨some 2,.mv (.tmp 22),none⟩] [2] []) <|
 .ret
attribute [local go_sem] reduceIte reduceCtorEq Nat.reduceEqDiff in
theorem toS_fn (hm:P.follows .mixedOrders=true) {f:FuncId}{fn:Func}{k y:Nat}{z:List AV}{g:FuncId}{nt:Nat} (h:CodeIsR P f fn (toS_code k y z g)) (hnt:fn.ntmps=nt) (hrs:fn.results.toList=[.tmp 2]) (hna:Nat.ble 1 nt=true)
  (hk:∀x,(c x).length=k) (hk0:0<k) (hz:z.length=k) (hzz:zeroB z=true) (hcb:∀x,cellsB (c x)=true) {l:List α} (hg:∀x,x∈l→Fn P g [] [.agg (c x)] (.agg (c x)) []) (hl:l.length≤1048576) (hy:y≤1024) :
  Fn P f [] [.sl k (E c l)] (.sl k (E c l)) []:=by
 refine h.fn0 hm hnt hrs hna fun X=>?_
 unfold toS_code
 simp -dsimp only[go_sem]
 have hly:(l.length:Int)*(y:Int)≤2 ^ 47:=by
  have h1:l.length*y≤1048576*1024:=Nat.mul_le_mul hl hy
  have h2:((l.length*y:Nat):Int)≤((1048576*1024:Nat):Int):=Int.ofNat_le.2 h1
  rw[Int.natCast_mul] at h2
  omega
 refine⟨⟨by omega,hly,by omega,hz,by have:=zero_all hzz (fun _=>none);simpa -dsimp only[go_sem] using this⟩,?_⟩
 refine LoopK.intro (drawn_ok hm) (fun i:{i:Nat // i≤l.length}=>⟨[(0,.sl k (E c l)),(3,.loc (.t 7 0) 0 l.length),(4,.v (.int .i64 i.1))],
   [(.t 7 0,.arr k (E c (l.take i.1)++List.replicate (l.length-i.1) z) false)]⟩) (fun i=>l.length-i.1) ⟨0,by omega⟩ ?_ ?_
 ·simp[LeL,look,hlook,E]
 ·rintro⟨i,hi⟩
  simp -dsimp only[go_sem]
  refine Br.mk (fun h1=>?_) fun h1=>?_
  ·have hlt:i<l.length:=by simpa using h1
   have hw:=wrap_succ hlt hl
   have ht:(c l[i]).take k=c l[i]:=List.take_of_length_le (by rw[hk];exact Nat.le_refl _)
   simp -dsimp only[go_sem,E_get hlt,ht,conv_cells (hcb l[i]) _ 6]
   refine⟨⟨by omega,by omega⟩,by rw[hk];exact Nat.le_refl _,?_⟩
   refine CallK.pure (hg _ (List.getElem_mem hlt)) ?_
   simp -dsimp only[go_sem,rn_cells (hcb l[i]),E_rget hlt,all_one (hcb l[i])]
   refine⟨⟨by omega,by omega⟩,⟨hk0,hk _,by rw[hz];exact Nat.le_refl _,clo_cells (hcb _)⟩,?_⟩
   have e:=E_set (c:=c) hlt (x:=lay z 0 (c l[i])) (lay_cells (by rw[hz,hk])) z
   simp -dsimp only[go_sem,hw,e]
   exact⟨⟨i+1,by omega⟩,by simp[LeL,look,hlook],by simp only;omega⟩
  ·have hge:i=l.length:=by
    have:¬i<l.length:=by simpa using h1
    omega
   subst hge
   simp -dsimp only[go_sem,E_all]
   simp
end
section
variable [Envs]
variable {P:Program}{α:Type}{c:α→List AV}
attribute [local irreducible] Fn
def eqS_code (k:Nat) (g:FuncId):ACode:=
 .seq (.region [⟨some 4,.mv (.const (.bool false)),none⟩] [0,1] []) <|
 .seq (.seq (.region [⟨some 6,.mv (.tmp 0),none⟩,
     ⟨some 7,.len (.tmp 6),none⟩,
     ⟨some 8,.mv (.tmp 1),none⟩,
     ⟨some 9,.len (.tmp 8),none⟩,
     ⟨some 10,.bin .neq (.tmp 7) (.tmp 9),none⟩] [0,1,10] []) <|
  .cond (.tmp 10)
    (.seq (.region [⟨some 4,.mv (.const (.bool false)),none⟩] [4] []) <|
    .ret)
    (.skip)) <|
 .seq (.seq (.region [⟨some 5,.mv (.const (.int .i64 (0))),none⟩] [0,1,5] []) <|
  .block 0 (
    .loop (
      .seq (.seq (.region [⟨some 11,.mv (.tmp 5),none⟩,
          ⟨some 12,.mv (.tmp 0),none⟩,
          ⟨some 13,.len (.tmp 12),none⟩,
          ⟨some 14,.bin .lss (.tmp 11) (.tmp 13),none⟩] [0,1,5,14] []) <|
       .cond (.tmp 14)
         (.skip)
         (.exit 0)) <|
      .seq (.block 1 (
         .seq (.region [⟨some 17,.mv (.tmp 0),none⟩,
            ⟨some 18,.mv (.tmp 5),none⟩,
            ⟨some 19,.idxSl k (.tmp 17) (.tmp 18),none⟩,
            ⟨some 20,.load true k (.tmp 19),none⟩,
            ⟨some 21,.mv (.tmp 1),none⟩,
            ⟨some 22,.mv (.tmp 5),none⟩,
            ⟨some 23,.idxSl k (.tmp 21) (.tmp 22),none⟩,
            ⟨some 24,.load true k (.tmp 23),none⟩,
            ⟨some 25,.call (.func g) [(.tmp 20),(.tmp 24)] [],none⟩,
            ⟨some 26,.un .not (.tmp 25),none⟩] [0,1,5,26] [17,18,20,21,19,22,23,24,25,26]) <|
         .cond (.tmp 26)
           (.seq (.region [⟨some 4,.mv (.const (.bool false)),none⟩] [4] []) <|
           .ret)
           (.skip))) <|
      .region [⟨some 15,.mv (.tmp 5),none⟩,
        ⟨some 16,.bin .add (.tmp 15) (.const (.int .i64 (1))),none⟩,
        ⟨some 5,.mv (.tmp 16),none⟩] [0,1,5] []))) <|
 .seq (.region [⟨some 4,.mv (.const (.bool true)),none⟩] [4] []) <|
 .ret
attribute [local go_sem] reduceIte reduceCtorEq Nat.reduceEqDiff in
theorem eqS_fn (hm:P.follows .mixedOrders=true) {f:FuncId}{fn:Func}{k:Nat}{g:FuncId}{nt:Nat} (h:CodeIsR P f fn (eqS_code k g)) (hnt:fn.ntmps=nt) (hrs:fn.results.toList=[.tmp 4]) (hna:Nat.ble 2 nt=true)
  (hk:∀x,(c x).length=k) (hcb:∀x,cellsB (c x)=true) {l:List α} (hg:∀x,x∈l→Fn P g [] [.agg (c x),.agg (c x)] (.v (.bool true)) []) (hl:l.length≤1048576) :
  Fn P f [] [.sl k (E c l),.sl k (E c l)] (.v (.bool true)) []:=by
 refine h.fn0 hm hnt hrs hna fun X=>?_
 unfold eqS_code
 simp -dsimp only[go_sem]
 refine LoopK.intro (drawn_ok hm) (fun i:{i:Nat // i≤l.length}=>⟨[(0,.sl k (E c l)),(1,.sl k (E c l)),(5,.v (.int .i64 i.1))],[]⟩) (fun i=>l.length-i.1) ⟨0,by omega⟩ ?_ ?_
 ·simp[LeL,look]
 ·rintro⟨i,hi⟩
  simp -dsimp only[go_sem]
  refine Br.mk (fun h1=>?_) fun h1=>?_
  ·have hlt:i<l.length:=by simpa using h1
   have hw:=wrap_succ hlt hl
   have ht:(c l[i]).take k=c l[i]:=List.take_of_length_le (by rw[hk];exact Nat.le_refl _)
   simp -dsimp only[go_sem]
   refine RgK.mk rfl ?_
   simp -dsimp only[go_sem,E_get hlt,ht,conv_cells (hcb l[i]) _ 6]
   refine⟨⟨by omega,by omega⟩,by rw[hk];exact Nat.le_refl _,⟨by omega,by omega⟩,by rw[hk];exact Nat.le_refl _,?_⟩
   refine CallK.flat (hg _ (List.getElem_mem hlt)) rfl ?_
   simp -dsimp only[go_sem,hw]
   exact⟨⟨i+1,by omega⟩,by simp[LeL,look],by simp only;omega⟩
  ·simp -dsimp only[go_sem]
   simp
def eqLB (q:α→α→Bool):List α→List α→Bool
 | [],[]=>true
 |x::r,y::s=>q x y&&eqLB q r s
 |_,_=>false
theorem eqLB_len {q:α→α→Bool}:∀{l m:List α},l.length≠m.length→eqLB q l m=false
 | [],[],h=>absurd rfl h
 | [],_::_,_=>rfl
 |_::_,[],_=>rfl
 | x::r,y::s,h=>by
  rw[eqLB,eqLB_len (by simpa using h),Bool.and_false]
theorem eqLB_step {q:α→α→Bool}{l m:List α}{i:Nat} (h:i<l.length) (h':i<m.length):eqLB q (l.drop i) (m.drop i)=(q l[i] m[i]&&eqLB q (l.drop (i+1)) (m.drop (i+1))):=by
 rw[List.drop_eq_getElem_cons h,List.drop_eq_getElem_cons h',eqLB]
def spEq_code (k:Nat) (ks:List Nat):ACode:=
 .seq (.region [⟨some 4,.mv (.const (.bool false)),none⟩] [0,1] []) <|
 .seq (.seq (.region [⟨some 6,.mv (.tmp 0),none⟩,
     ⟨some 7,.len (.tmp 6),none⟩,
     ⟨some 8,.mv (.tmp 1),none⟩,
     ⟨some 9,.len (.tmp 8),none⟩,
     ⟨some 10,.bin .neq (.tmp 7) (.tmp 9),none⟩] [0,1,10] []) <|
  .cond (.tmp 10)
    (.seq (.region [⟨some 4,.mv (.const (.bool false)),none⟩] [4] []) <|
    .ret)
    (.skip)) <|
 .seq (.seq (.region [⟨some 5,.mv (.const (.int .i64 (0))),none⟩] [0,1,5] []) <|
  .block 0 (
    .loop (
      .seq (.seq (.region [⟨some 11,.mv (.tmp 5),none⟩,
          ⟨some 12,.mv (.tmp 0),none⟩,
          ⟨some 13,.len (.tmp 12),none⟩,
          ⟨some 14,.bin .lss (.tmp 11) (.tmp 13),none⟩] [0,1,5,14] []) <|
       .cond (.tmp 14)
         (.skip)
         (.exit 0)) <|
      .seq (.block 1 (
         .seq (.region [⟨some 17,.mv (.tmp 0),none⟩,
            ⟨some 18,.mv (.tmp 5),none⟩,
            ⟨some 19,.idxSl k (.tmp 17) (.tmp 18),none⟩,
            ⟨some 20,.load true k (.tmp 19),none⟩,
            ⟨some 21,.mv (.tmp 1),none⟩,
            ⟨some 22,.mv (.tmp 5),none⟩,
            ⟨some 23,.idxSl k (.tmp 21) (.tmp 22),none⟩,
            ⟨some 24,.load true k (.tmp 23),none⟩,
            ⟨some 25,.eqA true ks (.tmp 20) (.tmp 24),none⟩] [0,1,5,25] [17,18,20,21,19,22,23,24,25]) <|
         .cond (.tmp 25)
           (.seq (.region [⟨some 4,.mv (.const (.bool false)),none⟩] [4] []) <|
           .ret)
           (.skip))) <|
      .region [⟨some 15,.mv (.tmp 5),none⟩,
        ⟨some 16,.bin .add (.tmp 15) (.const (.int .i64 (1))),none⟩,
        ⟨some 5,.mv (.tmp 16),none⟩] [0,1,5] []))) <|
 .seq (.region [⟨some 4,.mv (.const (.bool true)),none⟩] [4] []) <|
 .ret
attribute [local go_sem] reduceIte reduceCtorEq Nat.reduceEqDiff in
theorem spEq_fn (hm:P.follows .mixedOrders=true) {f:FuncId}{fn:Func}{k:Nat}{ks:List Nat}{nt:Nat} (h:CodeIsR P f fn (spEq_code k ks)) (hnt:fn.ntmps=nt) (hrs:fn.results.toList=[.tmp 4]) (hna:Nat.ble 2 nt=true)
  {q:α→α→Bool} (hk:∀x,(c x).length=k) (hq:∀x y,eqC ks (c x) (c y)=some (q x y)) {l m:List α} (hl:l.length≤1048576) :
  Fn P f [] [.sl k (E c l),.sl k (E c m)] (.v (.bool (eqLB q l m))) []:=by
 refine h.fn0 hm hnt hrs hna fun X=>?_
 unfold spEq_code
 simp -dsimp only[go_sem]
 refine Br.mk (fun h0=>?_) fun h0=>?_
 ·simp -dsimp only[go_sem]
  have:l.length≠m.length:=by rintro e;simp[e] at h0
  simp[eqLB_len this]
 ·have he:l.length=m.length:=by
   have:=h0
   simp at this
   omega
  simp -dsimp only[go_sem]
  refine LoopK.intro (drawn_ok hm) (fun i:{i:Nat // i≤l.length∧eqLB q (l.drop i) (m.drop i)=eqLB q l m}=>⟨[(0,.sl k (E c l)),(1,.sl k (E c m)),(5,.v (.int .i64 i.1))],[]⟩) (fun i=>l.length-i.1) ⟨0,by simp⟩ ?_ ?_
  ·simp[LeL,look]
  ·rintro⟨i,hi,hP⟩
   simp -dsimp only[go_sem]
   refine Br.mk (fun h1=>?_) fun h1=>?_
   ·have hlt:i<l.length:=by simpa using h1
    have hlt':i<m.length:=by omega
    have hw:=wrap_succ hlt hl
    have ht:(c l[i]).take k=c l[i]:=List.take_of_length_le (by rw[hk];exact Nat.le_refl _)
    have ht':(c m[i]).take k=c m[i]:=List.take_of_length_le (by rw[hk];exact Nat.le_refl _)
    rw[eqLB_step hlt hlt'] at hP
    simp -dsimp only[go_sem]
    refine RgK.mk rfl ?_
    simp -dsimp only[go_sem,E_get hlt,E_get hlt',ht,ht',hq]
    refine⟨⟨by omega,by omega⟩,by rw[hk];exact Nat.le_refl _,⟨by omega,by omega⟩,by rw[hk];exact Nat.le_refl _,?_⟩
    refine Br.mk (fun h2=>?_) fun h2=>?_
    ·simp -dsimp only[go_sem]
     have h2:q l[i] m[i]=false:=by simpa using h2
     rw[h2] at hP
     simp[←hP]
    ·simp -dsimp only[go_sem,hw]
     have h2:q l[i] m[i]=true:=by simpa using h2
     rw[h2,Bool.true_and] at hP
     exact⟨⟨i+1,by omega,hP⟩,by simp[LeL,look],by simp only;omega⟩
   ·simp -dsimp only[go_sem]
    have hge:i=l.length:=by
     have:¬i<l.length:=by simpa using h1
     omega
    subst hge
    rw[he,List.drop_length,←he,List.drop_length] at hP
    simp[←hP,eqLB]
def slEq_code (k:Nat) (ks:List Nat):ACode:=
 .seq (.region [⟨some 4,.mv (.const (.bool false)),none⟩] [0,1] []) <|
 .seq (.seq (.region [⟨some 6,.mv (.tmp 0),none⟩,
     ⟨some 7,.len (.tmp 6),none⟩,
     ⟨some 8,.mv (.tmp 1),none⟩,
     ⟨some 9,.len (.tmp 8),none⟩,
     ⟨some 10,.bin .neq (.tmp 7) (.tmp 9),none⟩] [0,1,10] []) <|
  .cond (.tmp 10)
    (.seq (.region [⟨some 4,.mv (.const (.bool false)),none⟩] [4] []) <|
    .ret)
    (.skip)) <|
 .seq (.seq (.region [⟨some 11,.mv (.tmp 0),none⟩,
     ⟨some 12,.len (.tmp 11),none⟩,
     ⟨some 13,.mv (.const (.int .i64 (0))),none⟩] [0,1,12,13] []) <|
  .block 0 (
    .loop (
      .seq (.region [⟨some 14,.bin .lss (.tmp 13) (.tmp 12),none⟩] [0,1,12,13,14] []) <|
      .seq (.cond (.tmp 14)
         (.skip)
         (.exit 0)) <|
      .seq (.block 1 (
         .seq (.region [⟨some 15,.mv (.tmp 13),none⟩,
            ⟨some 5,.mv (.tmp 15),none⟩] [0,1,5,12,13] []) <|
         .seq (.region [⟨some 16,.mv (.tmp 0),none⟩,
            ⟨some 17,.mv (.tmp 5),none⟩,
            ⟨some 18,.idxSl k (.tmp 16) (.tmp 17),none⟩,
            ⟨some 19,.load true k (.tmp 18),none⟩,
            ⟨some 20,.mv (.tmp 1),none⟩,
            ⟨some 21,.mv (.tmp 5),none⟩,
            ⟨some 22,.idxSl k (.tmp 20) (.tmp 21),none⟩,
            ⟨some 23,.load true k (.tmp 22),none⟩,
            ⟨some 24,.eqA true ks (.tmp 19) (.tmp 23),none⟩] [0,1,12,13,24] [16,17,19,20,18,21,22,23,24]) <|
         .cond (.tmp 24)
           (.seq (.region [⟨some 4,.mv (.const (.bool false)),none⟩] [4] []) <|
           .ret)
           (.skip))) <|
      .region [⟨some 25,.bin .add (.tmp 13) (.const (.int .i64 (1))),none⟩,
        ⟨some 13,.mv (.tmp 25),none⟩] [0,1,12,13] []))) <|
 .seq (.region [⟨some 4,.mv (.const (.bool true)),none⟩] [4] []) <|
 .ret
attribute [local go_sem] reduceIte reduceCtorEq Nat.reduceEqDiff in
theorem slEq_fn (hm:P.follows .mixedOrders=true) {f:FuncId}{fn:Func}{k:Nat}{ks:List Nat}{nt:Nat} (h:CodeIsR P f fn (slEq_code k ks)) (hnt:fn.ntmps=nt) (hrs:fn.results.toList=[.tmp 4]) (hna:Nat.ble 2 nt=true)
  {q:α→α→Bool} (hk:∀x,(c x).length=k) (hq:∀x y,eqC ks (c x) (c y)=some (q x y)) {l m:List α} (hl:l.length≤1048576) :
  Fn P f [] [.sl k (E c l),.sl k (E c m)] (.v (.bool (eqLB q l m))) []:=by
 refine h.fn0 hm hnt hrs hna fun X=>?_
 unfold slEq_code
 simp -dsimp only[go_sem]
 refine Br.mk (fun h0=>?_) fun h0=>?_
 ·simp -dsimp only[go_sem]
  have:l.length≠m.length:=by rintro e;simp[e] at h0
  simp[eqLB_len this]
 ·have he:l.length=m.length:=by
   have:=h0
   simp at this
   omega
  simp -dsimp only[go_sem]
  refine LoopK.intro (drawn_ok hm) (fun i:{i:Nat // i≤l.length∧eqLB q (l.drop i) (m.drop i)=eqLB q l m}=>⟨[(0,.sl k (E c l)),(1,.sl k (E c m)),(12,.v (.int .i64 l.length)),(13,.v (.int .i64 i.1))],[]⟩) (fun i=>l.length-i.1) ⟨0,by simp⟩ ?_ ?_
  ·simp[LeL,look]
  ·rintro⟨i,hi,hP⟩
   simp -dsimp only[go_sem]
   refine Br.mk (fun h1=>?_) fun h1=>?_
   ·have hlt:i<l.length:=by simpa using h1
    have hlt':i<m.length:=by omega
    have hw:=wrap_succ hlt hl
    have ht:(c l[i]).take k=c l[i]:=List.take_of_length_le (by rw[hk];exact Nat.le_refl _)
    have ht':(c m[i]).take k=c m[i]:=List.take_of_length_le (by rw[hk];exact Nat.le_refl _)
    rw[eqLB_step hlt hlt'] at hP
    simp -dsimp only[go_sem]
    refine RgK.mk rfl ?_
    simp -dsimp only[go_sem,E_get hlt,E_get hlt',ht,ht',hq]
    refine⟨⟨by omega,by omega⟩,by rw[hk];exact Nat.le_refl _,⟨by omega,by omega⟩,by rw[hk];exact Nat.le_refl _,?_⟩
    refine Br.mk (fun h2=>?_) fun h2=>?_
    ·simp -dsimp only[go_sem]
     have h2:q l[i] m[i]=false:=by simpa using h2
     rw[h2] at hP
     simp[←hP]
    ·simp -dsimp only[go_sem,hw]
     have h2:q l[i] m[i]=true:=by simpa using h2
     rw[h2,Bool.true_and] at hP
     exact⟨⟨i+1,by omega,hP⟩,by simp[LeL,look],by simp only;omega⟩
   ·simp -dsimp only[go_sem]
    have hge:i=l.length:=by
     have:¬i<l.length:=by simpa using h1
     omega
    subst hge
    rw[he,List.drop_length,←he,List.drop_length] at hP
    simp[←hP,eqLB]
end
section
variable [Envs]
variable {P:Program}{α:Type}{c:α→List AV}
attribute [local irreducible] Fn
def idxP (p:α→Bool) (l:List α):Int:=match l.findIdx? p with|some i=>i|none=>-1
theorem idxP_none {p:α→Bool}{l:List α} (h:l.all (fun x=>!p x)=true):idxP p l=-1:=by
 have:l.findIdx? p=none:=by
  rw[List.findIdx?_eq_none_iff]
  intro x hx
  simpa using List.all_eq_true.1 h x hx
 simp[idxP,this]
theorem idxP_some {p:α→Bool}{l:List α}{i:Nat} (hi:i<l.length) (h:(l.take i).all (fun x=>!p x)=true) (hp:p l[i]=true):idxP p l=i:=by
 have:l.findIdx? p=some i:=by
  rw[List.findIdx?_eq_some_iff_getElem]
  refine⟨hi,hp,fun j hj=>?_⟩
  have:=List.all_eq_true.1 h l[j] (by
    rw[List.mem_take_iff_getElem]
    exact⟨j,by omega,rfl⟩)
  simpa using this
 simp[idxP,this]
theorem idxP_any (p:α→Bool) (l:List α):decide (idxP p l≥0)=l.any p:=by
 unfold idxP
 cases h:l.findIdx? p with
 | none =>
  rw[List.findIdx?_eq_none_iff] at h
  have:l.any p=false:=by
   rw[List.any_eq_false]
   intro x hx;simp[h x hx]
  simp[this]
 | some i =>
  rw[List.findIdx?_eq_some_iff_getElem] at h
  obtain⟨hi,hp,_⟩:=h
  have:l.any p=true:=List.any_eq_true.2 ⟨l[i],List.getElem_mem hi,hp⟩
  simp[this]
def ixA_code (k:Nat):ACode:=
 .seq (.region [⟨some 4,.mv (.const (.int .i64 (0))),none⟩] [0,1] []) <|
 .seq (.seq (.region [⟨some 6,.mv (.tmp 0),none⟩,
     ⟨some 7,.len (.tmp 6),none⟩,
     ⟨some 8,.mv (.const (.int .i64 (0))),none⟩] [0,1,7,8] []) <|
  .block 0 (
    .loop (
      .seq (.region [⟨some 9,.bin .lss (.tmp 8) (.tmp 7),none⟩] [0,1,7,8,9] []) <|
      .seq (.cond (.tmp 9)
         (.skip)
         (.exit 0)) <|
      .seq (.block 1 (
         .seq (.region [⟨some 10,.mv (.tmp 8),none⟩,
            ⟨some 5,.mv (.tmp 10),none⟩] [0,1,5,7,8] []) <|
         .seq (.region [⟨some 11,.mv (.tmp 1),none⟩,
            ⟨some 12,.mv (.tmp 0),none⟩,
            ⟨some 13,.mv (.tmp 5),none⟩,
            ⟨some 14,.idxSl k (.tmp 12) (.tmp 13),none⟩,
            ⟨some 15,.load true k (.tmp 14),none⟩,
            ⟨some 16,.call (.tmp 11) [(.tmp 15)] [],none⟩] [0,1,5,7,8,16] []) <|
         .cond (.tmp 16)
           (.seq (.region [⟨some 17,.mv (.tmp 5),none⟩,
              ⟨some 4,.mv (.tmp 17),none⟩] [4] []) <|
           .ret)
           (.skip))) <|
      .region [⟨some 18,.bin .add (.tmp 8) (.const (.int .i64 (1))),none⟩,
        ⟨some 8,.mv (.tmp 18),none⟩] [0,1,7,8] []))) <|
 .seq (.region [⟨some 4,.mv (.const (.int .i64 (-1))),none⟩] [4] []) <|
 .ret
attribute [local go_sem] reduceIte reduceCtorEq Nat.reduceEqDiff in
theorem ixA_fn (hm:P.follows .mixedOrders=true) {f:FuncId}{fn:Func}{k:Nat}{nt:Nat} (h:CodeIsR P f fn (ixA_code k)) (hnt:fn.ntmps=nt) (hrs:fn.results.toList=[.tmp 4]) (hna:Nat.ble 2 nt=true)
  (p:α→Bool) (g:FuncId) (caps:List AV) (hcaps:cellsB caps=true) (hk:∀x,(c x).length=k) (hcb:∀x,cellsB (c x)=true) {l:List α} (hg:∀x,x∈l→Fn P g [] (.agg (c x)::caps) (.v (.bool (p x))) []) (hl:l.length≤1048576) :
  Fn P f [] [.sl k (E c l),.fn g caps] (.v (.int .i64 (idxP p l))) []:=by
 refine h.fn0 hm hnt hrs hna fun X=>?_
 unfold ixA_code
 simp -dsimp only[go_sem,conv_cells hcaps _ 6]
 refine LoopK.intro (drawn_ok hm) (fun i:{i:Nat // i≤l.length∧(l.take i).all (fun x=>!p x)=true}=>⟨[(0,.sl k (E c l)),(1,.fn g caps),(7,.v (.int .i64 l.length)),(8,.v (.int .i64 i.1))],[]⟩) (fun i=>l.length-i.1) ⟨0,by simp⟩ ?_ ?_
 ·simp[LeL,look]
 ·rintro⟨i,hi,hall⟩
  simp -dsimp only[go_sem]
  refine Br.mk (fun h1=>?_) fun h1=>?_
  ·have hlt:i<l.length:=by simpa using h1
   have hw:=wrap_succ hlt hl
   have ht:(c l[i]).take k=c l[i]:=List.take_of_length_le (by rw[hk];exact Nat.le_refl _)
   simp -dsimp only[go_sem,E_get hlt,ht,conv_cells (hcb l[i]) _ 6,conv_cells hcaps _ 7]
   refine⟨⟨by omega,by omega⟩,by rw[hk];exact Nat.le_refl _,?_⟩
   refine CallK.flat (hg _ (List.getElem_mem hlt)) rfl ?_
   simp -dsimp only[go_sem]
   refine Br.mk (fun h2=>?_) fun h2=>?_
   ·simp -dsimp only[go_sem]
    simp[idxP_some hlt hall h2]
   ·simp -dsimp only[go_sem,hw]
    exact⟨⟨i+1,by omega,take_succ_all hlt hall (by simpa using h2)⟩,by simp[LeL,look],by simp only;omega⟩
  ·have hge:i=l.length:=by
    have:¬i<l.length:=by simpa using h1
    omega
   subst hge
   simp -dsimp only[go_sem]
   have:l.all (fun x=>!p x)=true:=by simpa using hall
   simp[idxP_none this]
def cI (n:Int):List AV:=[.v (.int .i64 n)]
def ixI_code:ACode:=
 .seq (.region [⟨some 4,.mv (.const (.int .i64 (0))),none⟩] [0,1] []) <|
 .seq (.seq (.region [⟨some 6,.mv (.tmp 0),none⟩,
     ⟨some 7,.len (.tmp 6),none⟩,
     ⟨some 8,.mv (.const (.int .i64 (0))),none⟩] [0,1,7,8] []) <|
  .block 0 (
    .loop (
      .seq (.region [⟨some 9,.bin .lss (.tmp 8) (.tmp 7),none⟩] [0,1,7,8,9] []) <|
      .seq (.cond (.tmp 9)
         (.skip)
         (.exit 0)) <|
      .seq (.block 1 (
         .seq (.region [⟨some 10,.mv (.tmp 8),none⟩,
            ⟨some 5,.mv (.tmp 10),none⟩] [0,1,5,7,8] []) <|
         .seq (.region [⟨some 11,.mv (.tmp 1),none⟩,
            ⟨some 12,.mv (.tmp 0),none⟩,
            ⟨some 13,.mv (.tmp 5),none⟩,
            ⟨some 14,.idxSl 1 (.tmp 12) (.tmp 13),none⟩,
            ⟨some 15,.load false 1 (.tmp 14),none⟩,
            ⟨some 16,.call (.tmp 11) [(.tmp 15)] [],none⟩] [0,1,5,7,8,16] []) <|
         .cond (.tmp 16)
           (.seq (.region [⟨some 17,.mv (.tmp 5),none⟩,
              ⟨some 4,.mv (.tmp 17),none⟩] [4] []) <|
           .ret)
           (.skip))) <|
      .region [⟨some 18,.bin .add (.tmp 8) (.const (.int .i64 (1))),none⟩,
        ⟨some 8,.mv (.tmp 18),none⟩] [0,1,7,8] []))) <|
 .seq (.region [⟨some 4,.mv (.const (.int .i64 (-1))),none⟩] [4] []) <|
 .ret
attribute [local go_sem] reduceIte reduceCtorEq Nat.reduceEqDiff in
theorem ixI_fn (hm:P.follows .mixedOrders=true) {f:FuncId}{fn:Func}{nt:Nat} (h:CodeIsR P f fn (ixI_code)) (hnt:fn.ntmps=nt) (hrs:fn.results.toList=[.tmp 4]) (hna:Nat.ble 2 nt=true)
  (p:Int→Bool) (g:FuncId) (caps:List AV) (hcaps:cellsB caps=true) {l:List Int} (hg:∀x,x∈l→Fn P g [] (.v (.int .i64 x)::caps) (.v (.bool (p x))) []) (hl:l.length≤1048576) :
  Fn P f [] [.sl 1 (E cI l),.fn g caps] (.v (.int .i64 (idxP p l))) []:=by
 refine h.fn0 hm hnt hrs hna fun X=>?_
 unfold ixI_code
 simp -dsimp only[go_sem,conv_cells hcaps _ 6]
 refine LoopK.intro (drawn_ok hm) (fun i:{i:Nat // i≤l.length∧(l.take i).all (fun x=>!p x)=true}=>⟨[(0,.sl 1 (E cI l)),(1,.fn g caps),(7,.v (.int .i64 l.length)),(8,.v (.int .i64 i.1))],[]⟩) (fun i=>l.length-i.1) ⟨0,by simp⟩ ?_ ?_
 ·simp[LeL,look]
 ·rintro⟨i,hi,hall⟩
  simp -dsimp only[go_sem]
  refine Br.mk (fun h1=>?_) fun h1=>?_
  ·have hlt:i<l.length:=by simpa using h1
   have hw:=wrap_succ hlt hl
   simp -dsimp only[go_sem,E_get hlt,cI,conv_cells hcaps _ 7]
   refine⟨⟨by omega,by omega⟩,?_⟩
   refine CallK.flat (hg _ (List.getElem_mem hlt)) rfl ?_
   simp -dsimp only[go_sem]
   refine Br.mk (fun h2=>?_) fun h2=>?_
   ·simp -dsimp only[go_sem]
    simp[idxP_some hlt hall h2]
   ·simp -dsimp only[go_sem,hw]
    exact⟨⟨i+1,by omega,take_succ_all hlt hall (by simpa using h2)⟩,by simp[LeL,look],by simp only;omega⟩
  ·have hge:i=l.length:=by
    have:¬i<l.length:=by simpa using h1
    omega
   subst hge
   simp -dsimp only[go_sem]
   have:l.all (fun x=>!p x)=true:=by simpa using hall
   simp[idxP_none this]
def ct_code (g:FuncId):ACode:=
 .seq (.region [⟨some 4,.mv (.const (.bool false)),none⟩] [0,1] []) <|
 .seq (.region [⟨some 5,.mv (.tmp 0),none⟩,
    ⟨some 6,.mv (.tmp 1),none⟩,
    ⟨some 7,.call (.func g) [(.tmp 5),(.tmp 6)] [],none⟩,
    ⟨some 8,.bin .geq (.tmp 7) (.const (.int .i64 (0))),none⟩,
    ⟨some 4,.mv (.tmp 8),none⟩] [4] []) <|
 .ret
attribute [local go_sem] reduceIte reduceCtorEq Nat.reduceEqDiff in
theorem ct_fn (hm:P.follows .mixedOrders=true) {f:FuncId}{fn:Func}{g:FuncId}{nt:Nat} (h:CodeIsR P f fn (ct_code g)) (hnt:fn.ntmps=nt) (hrs:fn.results.toList=[.tmp 4]) (hna:Nat.ble 2 nt=true)
  (p:α→Bool) (q:FuncId) (caps:List AV) (hcaps:cellsB caps=true) {k:Nat}{l:List α} (hg:Fn P g [] [.sl k (E c l),.fn q caps] (.v (.int .i64 (idxP p l))) []) :
  Fn P f [] [.sl k (E c l),.fn q caps] (.v (.bool (l.any p))) []:=by
 refine h.fn0 hm hnt hrs hna fun X=>?_
 unfold ct_code
 simp -dsimp only[go_sem,conv_cells hcaps _ 6,conv_cells hcaps _ 7]
 refine CallK.flat hg rfl ?_
 simp -dsimp only[go_sem]
 simp[←idxP_any]
end
section
variable [Envs]
variable {P:Program}
attribute [local irreducible] Fn
theorem cI_get {l:List Int}{i:Nat} (h:i<l.length):((E cI l).getD i [])=[.v (.int .i64 l[i])]:=E_get h
def szI_code:ACode:=
 .seq (.region [⟨some 4,.mv (.const (.int .i64 (0))),none⟩] [0,1] []) <|
 .seq (.region [⟨some 5,.mv (.tmp 1),none⟩,
    ⟨some 6,.mv (.tmp 0),none⟩,
    ⟨some 7,.len (.tmp 6),none⟩,
    ⟨some 8,.bin .sub (.tmp 5) (.tmp 7),none⟩,
    ⟨some 1,.mv (.tmp 8),none⟩] [1] []) <|
 .seq (.seq (.region [⟨some 9,.mv (.tmp 1),none⟩,
     ⟨some 10,.bin .lss (.tmp 9) (.const (.int .i64 (0))),none⟩] [1,10] []) <|
  .cond (.tmp 10)
    (.seq (.region [⟨some 4,.mv (.const (.int .i64 (-1))),none⟩] [4] []) <|
    .ret)
    (.skip)) <|
 .seq (.region [⟨some 11,.mv (.tmp 1),none⟩,
    ⟨some 4,.mv (.tmp 11),none⟩] [4] []) <|
 .ret
def toI_code:ACode:=
 .seq (.region [⟨some 2,.mv (.const (.slice none 0 0)),none⟩] [0] []) <|
 .seq (.region [⟨some 5,.mv (.tmp 0),none⟩,
    ⟨some 6,.len (.tmp 5),none⟩,
    ⟨some 7,.mk 1 8 [.v (.int .i64 (0))] (.tmp 6),none⟩,
    ⟨some 3,.mv (.tmp 7),none⟩] [0,3] []) <|
 .seq (.seq (.region [⟨some 4,.mv (.const (.int .i64 (0))),none⟩] [0,3,4] []) <|
  .block 0 (
    .loop (
      .seq (.seq (.region [⟨some 8,.mv (.tmp 4),none⟩,
          ⟨some 9,.mv (.tmp 0),none⟩,
          ⟨some 10,.len (.tmp 9),none⟩,
          ⟨some 11,.bin .lss (.tmp 8) (.tmp 10),none⟩] [0,3,4,11] []) <|
       .cond (.tmp 11)
         (.skip)
         (.exit 0)) <|
      .seq (.block 1 (
         .region [⟨some 14,.mv (.tmp 3),none⟩,
           ⟨some 15,.mv (.tmp 4),none⟩,
           ⟨some 16,.mv (.tmp 0),none⟩,
           ⟨some 17,.mv (.tmp 4),none⟩,
           ⟨some 18,.idxSl 1 (.tmp 16) (.tmp 17),none⟩,
           ⟨some 19,.load false 1 (.tmp 18),none⟩,
           ⟨some 20,.idxSl 1 (.tmp 14) (.tmp 15),none⟩,
           ⟨none,.store 1 (.tmp 20) (.tmp 19),none⟩] [0,3,4] [])) <|
      .region [⟨some 12,.mv (.tmp 4),none⟩,
        ⟨some 13,.bin .add (.tmp 12) (.const (.int .i64 (1))),none⟩,
        ⟨some 4,.mv (.tmp 13),none⟩] [0,3,4] []))) <|
 .seq (.region [⟨some 21,.mv (.tmp 3),none⟩,
    ⟨some 2,.mv (.tmp 21),none⟩] [2] []) <|
 .ret
def eqI_code:ACode:=
 .seq (.region [⟨some 4,.mv (.const (.bool false)),none⟩] [0,1] []) <|
 .seq (.seq (.region [⟨some 6,.mv (.tmp 0),none⟩,
     ⟨some 7,.len (.tmp 6),none⟩,
     ⟨some 8,.mv (.tmp 1),none⟩,
     ⟨some 9,.len (.tmp 8),none⟩,
     ⟨some 10,.bin .neq (.tmp 7) (.tmp 9),none⟩] [0,1,10] []) <|
  .cond (.tmp 10)
    (.seq (.region [⟨some 4,.mv (.const (.bool false)),none⟩] [4] []) <|
    .ret)
    (.skip)) <|
 .seq (.seq (.region [⟨some 5,.mv (.const (.int .i64 (0))),none⟩] [0,1,5] []) <|
  .block 0 (
    .loop (
      .seq (.seq (.region [⟨some 11,.mv (.tmp 5),none⟩,
          ⟨some 12,.mv (.tmp 0),none⟩,
          ⟨some 13,.len (.tmp 12),none⟩,
          ⟨some 14,.bin .lss (.tmp 11) (.tmp 13),none⟩] [0,1,5,14] []) <|
       .cond (.tmp 14)
         (.skip)
         (.exit 0)) <|
      .seq (.block 1 (
         .seq (.region [⟨some 17,.mv (.tmp 0),none⟩,
            ⟨some 18,.mv (.tmp 5),none⟩,
            ⟨some 19,.idxSl 1 (.tmp 17) (.tmp 18),none⟩,
            ⟨some 20,.load false 1 (.tmp 19),none⟩,
            ⟨some 21,.mv (.tmp 1),none⟩,
            ⟨some 22,.mv (.tmp 5),none⟩,
            ⟨some 23,.idxSl 1 (.tmp 21) (.tmp 22),none⟩,
            ⟨some 24,.load false 1 (.tmp 23),none⟩,
            ⟨some 25,.bin .neq (.tmp 20) (.tmp 24),none⟩] [0,1,5,25] [17,18,20,21,19,22,23,24,25]) <|
         .cond (.tmp 25)
           (.seq (.region [⟨some 4,.mv (.const (.bool false)),none⟩] [4] []) <|
           .ret)
           (.skip))) <|
      .region [⟨some 15,.mv (.tmp 5),none⟩,
        ⟨some 16,.bin .add (.tmp 15) (.const (.int .i64 (1))),none⟩,
        ⟨some 5,.mv (.tmp 16),none⟩] [0,1,5] []))) <|
 .seq (.region [⟨some 4,.mv (.const (.bool true)),none⟩] [4] []) <|
 .ret
def szI (l:List Int) (n:Int):Int:=if IntKind.i64.wrap (n-l.length)<0 then -1 else IntKind.i64.wrap (n-l.length)
theorem szI_le {l:List Int}{n:Int} (hl:l.length<2 ^ 63) (h0:0≤n) (hn:n≤1048576) (h:0≤szI l n):szI l n≤n∧(l.length:Int)≤n:=by
 unfold szI at h⊢
 split
 ·rename_i h1;rw[if_pos h1] at h;omega
 ·rename_i h1
  rw[wrap_in (by omega) (by omega)] at h1⊢
  omega
attribute [local go_sem] reduceIte reduceCtorEq Nat.reduceEqDiff in
theorem szI_fn (hm:P.follows .mixedOrders=true) {f:FuncId}{fn:Func}{nt:Nat} (h:CodeIsR P f fn szI_code) (hnt:fn.ntmps=nt) (hrs:fn.results.toList=[.tmp 4]) (hna:Nat.ble 2 nt=true)
  (l:List Int) (n:Int):Fn P f [] [.sl 1 (E cI l),.v (.int .i64 n)] (.v (.int .i64 (szI l n))) []:=by
 refine h.fn0 hm hnt hrs hna fun X=>?_
 unfold szI_code
 simp -dsimp only[go_sem]
 refine Br.mk (fun h0=>?_) fun h0=>?_
 ·simp -dsimp only[go_sem]
  simp only[decide_eq_true_eq] at h0
  simp[szI,h0]
 ·simp -dsimp only[go_sem]
  simp only[decide_eq_false_iff_not] at h0
  simp[szI,h0]
attribute [local go_sem] reduceIte reduceCtorEq Nat.reduceEqDiff in
theorem toI_fn (hm:P.follows .mixedOrders=true) {f:FuncId}{fn:Func}{nt:Nat} (h:CodeIsR P f fn toI_code) (hnt:fn.ntmps=nt) (hrs:fn.results.toList=[.tmp 2]) (hna:Nat.ble 1 nt=true)
  {l:List Int} (hl:l.length≤1048576):Fn P f [] [.sl 1 (E cI l)] (.sl 1 (E cI l)) []:=by
 refine h.fn0 hm hnt hrs hna fun X=>?_
 unfold toI_code
 simp -dsimp only[go_sem]
 refine⟨⟨by omega,by omega,by omega⟩,?_⟩
 refine LoopK.intro (drawn_ok hm) (fun i:{i:Nat // i≤l.length}=>⟨[(0,.sl 1 (E cI l)),(3,.loc (.t 7 0) 0 l.length),(4,.v (.int .i64 i.1))],
   [(.t 7 0,.arr 1 (E cI (l.take i.1)++List.replicate (l.length-i.1) [.v (.int .i64 0)]) false)]⟩) (fun i=>l.length-i.1) ⟨0,by omega⟩ ?_ ?_
 ·simp[LeL,look,hlook,E]
 ·rintro⟨i,hi⟩
  simp -dsimp only[go_sem]
  refine Br.mk (fun h1=>?_) fun h1=>?_
  ·have hlt:i<l.length:=by simpa using h1
   have hw:=wrap_succ hlt hl
   simp -dsimp only[go_sem,cI_get hlt,E_rget hlt,hw]
   have e:=E_set (c:=cI) hlt (x:=[.v (.int .i64 l[i])]) rfl [.v (.int .i64 0)]
   rw[e]
   exact⟨⟨by omega,by omega⟩,⟨by omega,by omega⟩,by omega,⟨i+1,by omega⟩,by simp[LeL,look,hlook],by simp only;omega⟩
  ·have hge:i=l.length:=by
    have:¬i<l.length:=by simpa using h1
    omega
   subst hge
   simp -dsimp only[go_sem,E_all]
   simp
attribute [local go_sem] reduceIte reduceCtorEq Nat.reduceEqDiff in
theorem eqI_fn (hm:P.follows .mixedOrders=true) {f:FuncId}{fn:Func}{nt:Nat} (h:CodeIsR P f fn eqI_code) (hnt:fn.ntmps=nt) (hrs:fn.results.toList=[.tmp 4]) (hna:Nat.ble 2 nt=true)
  {l:List Int} (hl:l.length≤1048576):Fn P f [] [.sl 1 (E cI l),.sl 1 (E cI l)] (.v (.bool true)) []:=by
 refine h.fn0 hm hnt hrs hna fun X=>?_
 unfold eqI_code
 simp -dsimp only[go_sem]
 refine LoopK.intro (drawn_ok hm) (fun i:{i:Nat // i≤l.length}=>⟨[(0,.sl 1 (E cI l)),(1,.sl 1 (E cI l)),(5,.v (.int .i64 i.1))],[]⟩) (fun i=>l.length-i.1) ⟨0,by omega⟩ ?_ ?_
 ·simp[LeL,look]
 ·rintro⟨i,hi⟩
  simp -dsimp only[go_sem]
  refine Br.mk (fun h1=>?_) fun h1=>?_
  ·have hlt:i<l.length:=by simpa using h1
   have hw:=wrap_succ hlt hl
   simp -dsimp only[go_sem]
   refine RgK.mk rfl ?_
   simp -dsimp only[go_sem,cI_get hlt,hw]
   exact⟨⟨by omega,by omega⟩,⟨by omega,by omega⟩,⟨i+1,by omega⟩,by simp[LeL,look],by simp only;omega⟩
  ·simp -dsimp only[go_sem]
   simp
end
end Go.Vs
