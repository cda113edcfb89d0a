/- Copies that are handed over, to be written; rows that are marked one by one. -/
import Derived.Test.YtkgeiaideklmoaaGreatVtK
import Derived.Sort.Grow
import Derived.Deep.Draws
import Derived.LaidMore
import Derived.Lib.LaidTab
import Derived.MakeChecks
import Derived.Stop.LaidErr
set_option linter.all false
set_option maxHeartbeats 8000000
namespace Go.Vs
section
variable [Envs]
variable {P:Program}{α:Type}{d:α→AV}
attribute [local irreducible] Fn
end
section
variable [Envs]
variable {P:Program}
attribute [local irreducible] Fn
end
section
variable [Envs]
theorem vP {α:Type}{f:α→Int→Int}:∀{l:List α}{n:Int},(∀x,x∈l→∀n,0≤n→n≤1048576→0≤f x n→f x n≤n)→0≤n→n≤1048576→0≤yI f l n→∀x,x∈l→∃m,0≤m∧m≤1048576∧0≤f x m
 | [],n,_,_,_,_,x,hx=>by cases hx
 | y::r,n,hf,h0,hn,h,x,hx=>by
  simp only[yI] at h;split at h
  ·omega
  ·rename_i G;rcases List.mem_cons.1 hx with rfl|hx
   ·exact⟨n,h0,hn,by omega⟩
   ·have h2:=hf y (by simp) n h0 hn (by omega);exact vP (fun z F=>hf z (by simp[F])) (by omega) (by omega) h x hx
theorem aLk {α:Type}{f:α→Int→Int}{l:List α}{n:Int} (G:∀x,x∈l→∀n,0≤n→n≤1048576→0≤f x n→f x n≤n) (I:l.length<2 ^ 63) (H:0≤n) (J:n≤1048576) (h:0≤szL f l n):∀x,x∈l→∃m,0≤m∧m≤1048576∧0≤f x m:=by
 unfold szL at h;split at h
 ·omega
 ·rename_i F;rw[aP (by omega) (by omega)] at h F;exact vP (n:=n-l.length) G (by omega) (by omega) (by omega)
theorem aH8 {α:Type}{f:α→Int→Int}{l:List α}{n:Int} (H:∀x,x∈l→∀n,0≤n→n≤1048576→0≤f x n→f x n≤n) (I:l.length<2 ^ 63) (G:0≤n) (J:n≤1048576) (h:0≤szL f l n):szL f l n≤n∧(l.length:Int)≤n:=by
 refine⟨?_,aDm (f:=f) I ⟨G,J⟩ (by omega)⟩;have h2:=h;unfold szL at h⊢;split
 ·rename_i F;rw[if_pos F] at h;omega
 ·rename_i F;rw[if_neg F] at h;rw[aP (by omega) (by omega)] at h F⊢;have:=aDn H (by omega) (by omega) h;omega
end
section
variable [Envs]
variable {P:Program}
end
section
variable [Envs]
end
section
variable [Envs]
open Go.ChangeShapes Go.WideShapes Go.ChangeAt Go.RowKit
end
section
variable [Envs]
variable {P:Program}{α:Type}{c:α→List AV}
theorem aD.own {f:FuncId}{ys:List AV}{d:Option Nat}{σ:St}{K:St→Prop}{t:Tag K}{r:AV}{F:List (Option Blk)} (G:Fn P f [] ys r F) (H:kF (d.getD 0) 0 F.length σ=true)
  (I:K ⟨put d (rn (phi [] (d.getD 0) F.length) r) σ.s,x9 σ.h [] (d.getD 0) F true []⟩):aD P f [] ys [] d σ [] K t:=
 ⟨r,F,true,G,fun h=>(by cases h),H,I⟩
theorem aD.lend {f:FuncId}{ys:List AV}{L:List Name}{d:Option Nat}{σ:St}{K:St→Prop}{t:Tag K}{r:AV}{F:List (Option Blk)} (G:Fn P f [] ys r F) (J:Vs.flat r=true) (M:∀b,some b∈F→Vs.iF b) (H:kF (d.getD 0) 0 F.length σ=true)
  (I:K ⟨put d (rn (phi [] (d.getD 0) F.length) r) σ.s,x9 σ.h [] (d.getD 0) F false L⟩):aD P f [] ys L d σ [] K t:=
 ⟨r,F,false,G,fun _=>.inr ⟨J,M⟩,H,I⟩
theorem aD.bor {f:FuncId}{b:Blk}{ys:List AV}{d:Option Nat}{σ:St}{n:Name}{K:St→Prop}{t:Tag K}{r:AV}{F:List (Option Blk)} (G:Fn P f [b] ys r F) (H:kF (d.getD 0) 1 F.length σ=true)
  (I:K ⟨put d (rn (phi [n] (d.getD 0) F.length) r) σ.s,x9 σ.h [n] (d.getD 0) F true []⟩):aD P f [b] ys [] d σ [n] K t:=
 ⟨r,F,true,G,fun h=>(by cases h),H,I⟩
theorem aDR {k:Nat}{l:List α}{z:Bool} (h:∀x,jQ (c x)=true):iF (.arr k (E c l) z):=by
 intro r F;obtain⟨x,_,rfl⟩:=List.mem_map.1 F;exact h x
attribute [local go_sem] reduceIte reduceCtorEq Nat.reduceEqDiff in
theorem aJR (hm:P.follows .mixedOrders=true) {f:FuncId}{fn:Func}{k y:Nat}{z:List AV}{g:FuncId}{nt:Nat} (h:bX P f fn (y8 k y z g)) (hnt:fn.ntmps=nt) (hrs:fn.results.toList=[.tmp 2]) (hna:Nat.ble 1 nt=true)
  (hk:∀x,(c x).length=k) (hk0:0<k) (hz:z.length=k) (hzz:aHY z=true) (hcb:∀x,dJ (c x)=true) {l:List α} (hg:∀x,x∈l→Fn P g [] [.agg (c x)] (.agg (c x)) []) (hl:l.length≤1048576) (hy:y≤1024) :
  Fn P f [] [.sl k (E c l)] (.loc (.b 0) 0 l.length) [some (.arr k (E c l) false)]:=by
 refine h.fn hm (hin:=[]) nt _ [.t 7 0] [.arr k (E c l) false] hnt hrs rfl (by simpa using Nat.le_of_ble_eq_true hna) rfl (by simp) fun X=>?_;unfold y8;simp -dsimp only[go_sem]
 have hly:(l.length:Int)*(y:Int)≤2 ^ 47:=by
  have h1:l.length*y≤1048576*1024:=Nat.mul_le_mul hl hy;have h2:((l.length*y:Nat):Int)≤((1048576*1024:Nat):Int):=Int.ofNat_le.2 h1;rw[Int.natCast_mul] at h2;omega
 refine⟨⟨by omega,hly,by omega,hz,by have:=aD2 hzz (fun _=>none);simpa -dsimp only[go_sem] using this⟩,?_⟩
 refine aN.intro (dB hm) (fun i:{i:Nat // i≤l.length}=>⟨[(0,.sl k (E c l)),(3,.loc (.t 7 0) 0 l.length),(4,.v (.int .i64 i.1))],
   [(.t 7 0,.arr k (E c (l.take i.1)++List.replicate (l.length-i.1) z) false)]⟩) (fun i=>l.length-i.1) ⟨0,by omega⟩ ?_ ?_
 ·simp[LeL,look,aB,E]
 ·rintro⟨i,hi⟩;simp -dsimp only[go_sem];refine Br.mk (fun h1=>?_) fun h1=>?_
  ·have hlt:i<l.length:=by simpa using h1
   have hw:=aH hlt hl;have ht:(c l[i]).take k=c l[i]:=List.take_of_length_le (by rw[hk];exact Nat.le_refl _);simp -dsimp only[go_sem,aS hlt,ht,aG (hcb l[i]) _ 6];refine⟨⟨by omega,by omega⟩,by rw[hk];exact Nat.le_refl _,?_⟩;refine aD.pure (hg _ (List.getElem_mem hlt)) ?_;simp -dsimp only[go_sem,aEn (hcb l[i]),aD1 hlt,aG8 (hcb l[i])];refine⟨⟨by omega,by omega⟩,⟨hk0,hk _,by rw[hz];exact Nat.le_refl _,aC5 (hcb _)⟩,?_⟩;have e:=aHa (c:=c) hlt (x:=lay z 0 (c l[i])) (aCN (by rw[hz,hk])) z;simp -dsimp only[go_sem,hw,e];exact⟨⟨i+1,by omega⟩,by simp[LeL,look,aB],by simp only;omega⟩
  ·have hge:i=l.length:=by
    have:¬i<l.length:=by simpa using h1
    omega
   subst hge;simp -dsimp only[go_sem,aHb];exact⟨⟨_,_,rfl,rfl⟩,by simp⟩
attribute [local go_sem] reduceIte reduceCtorEq Nat.reduceEqDiff in
theorem aJS (hm:P.follows .mixedOrders=true) {f:FuncId}{fn:Func}{nt:Nat} (h:bX P f fn y9) (hnt:fn.ntmps=nt) (hrs:fn.results.toList=[.tmp 2]) (hna:Nat.ble 1 nt=true)
  {l:List Int} (hl:l.length≤1048576):Fn P f [] [.sl 1 (E cI l)] (.loc (.b 0) 0 l.length) [some (.arr 1 (E cI l) false)]:=by
 refine h.fn hm (hin:=[]) nt _ [.t 7 0] [.arr 1 (E cI l) false] hnt hrs rfl (by simpa using Nat.le_of_ble_eq_true hna) rfl (by simp) fun X=>?_;unfold y9;simp -dsimp only[go_sem];refine⟨⟨by omega,by omega,by omega⟩,?_⟩
 refine aN.intro (dB hm) (fun i:{i:Nat // i≤l.length}=>⟨[(0,.sl 1 (E cI l)),(3,.loc (.t 7 0) 0 l.length),(4,.v (.int .i64 i.1))],
   [(.t 7 0,.arr 1 (E cI (l.take i.1)++List.replicate (l.length-i.1) [.v (.int .i64 0)]) false)]⟩) (fun i=>l.length-i.1) ⟨0,by omega⟩ ?_ ?_
 ·simp[LeL,look,aB,E]
 ·rintro⟨i,hi⟩;simp -dsimp only[go_sem];refine Br.mk (fun h1=>?_) fun h1=>?_
  ·have hlt:i<l.length:=by simpa using h1
   have hw:=aH hlt hl;simp -dsimp only[go_sem,cZ hlt,aD1 hlt,hw];have e:=aHa (c:=cI) hlt (x:=[.v (.int .i64 l[i])]) rfl [.v (.int .i64 0)];rw[e];exact⟨⟨by omega,by omega⟩,⟨by omega,by omega⟩,by omega,⟨i+1,by omega⟩,by simp[LeL,look,aB],by simp only;omega⟩
  ·have hge:i=l.length:=by
    have:¬i<l.length:=by simpa using h1
    omega
   subst hge;simp -dsimp only[go_sem,aHb];exact⟨⟨_,_,rfl,rfl⟩,by simp⟩
def mkR (m:Nat→α) (l:List α) (i:Nat):List α:=(List.range i).map m++l.drop i
theorem aBU (m:Nat→α) (l:List α):mkR m l 0=l:=by simp[mkR]
theorem aKi (m:Nat→α) (l:List α):mkR m l l.length=(List.range l.length).map m:=by simp[mkR]
theorem gU (m:Nat→α) (l:List α) {i:Nat} (h:i≤l.length):(mkR m l i).length=l.length:=by simp[mkR];omega
theorem aDE (m:Nat→α) (l:List α) {i:Nat} (h:i<l.length):(E c (mkR m l i)).getD i []=c l[i]:=by
 rw[aS (by rw[gU m l (by omega)];exact h)];simp[mkR]
theorem aDD (m:Nat→α) (l:List α) {i:Nat} (h:i<l.length):(E c (mkR m l i)).set i (c (m i))=E c (mkR m l (i+1)):=by
 have e:(mkR m l i).set i (m i)=mkR m l (i+1):=by
  apply List.ext_getElem
  ·rw[List.length_set,gU m l (by omega),gU m l (by omega)]
  ·intro j F h2;rw[List.length_set,gU m l (by omega)] at F;rw[List.getElem_set];split
   ·rename_i e;subst e;simp[mkR,List.getElem_append]
   ·simp only[mkR,List.getElem_append,List.length_map,List.length_range,List.getElem_map,List.getElem_range,List.getElem_drop];split<;>split
    ·rfl
    ·omega
    ·omega
    ·congr 1;omega
 rw[←e];simp[E,List.map_set]
theorem aGs {R:List (List AV)}{i:Nat} (h:i<R.length) (r:List AV):(R.set i r).getD i []=r:=by
 simp[List.getD,List.getElem?_set,h]
theorem aDg {K F:St→Prop} (G:∀σ,K σ→F σ):∀(ops:List aJ) (σ:St),vc P K ops σ→vc P F ops σ
 | [],σ,hv=>G σ hv
 |_::r,_,hv=>aDh.2 (y5 (fun σ' h=>aDg G r σ' h) (aDh.1 hv))
end
end Go.Vs
