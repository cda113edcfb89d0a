/- Copies that are handed over, to be written; rows that are marked one by one. -/
import Derived.Test.YthfnpdhpefialaaGreatVtK
import Derived.Sort.Grow
import Derived.Deep.Draws
import Derived.LaidMore
import Derived.Lib.LaidTab
import Derived.MakeChecks
import Derived.Stop.LaidErr
set_option linter.all false
set_option maxHeartbeats 8000000
namespace Go.Vs
section
variable [Envs]
variable {P:Program}{α:Type}{d:α→AV}
attribute [local irreducible] Fn
end
section
variable [Envs]
variable {P:Program}
attribute [local irreducible] Fn
end
section
variable [Envs]
theorem szGo_mem {α:Type}{f:α→Int→Int}:∀{l:List α}{n:Int},(∀x,x∈l→∀n,0≤n→n≤1048576→0≤f x n→f x n≤n)→0≤n→n≤1048576→0≤szGo f l n→∀x,x∈l→∃m,0≤m∧m≤1048576∧0≤f x m
 | [],n,_,_,_,_,x,hx=>by cases hx
 | y::r,n,hf,h0,hn,h,x,hx=>by
  simp only[szGo] at h
  split at h
  ·omega
  ·rename_i h1
   rcases List.mem_cons.1 hx with rfl|hx
   ·exact⟨n,h0,hn,by omega⟩
   ·have h2:=hf y (by simp) n h0 hn (by omega)
    exact szGo_mem (fun z hz=>hf z (by simp[hz])) (by omega) (by omega) h x hx
theorem szL_in {α:Type}{f:α→Int→Int}{l:List α}{n:Int} (hf:∀x,x∈l→∀n,0≤n→n≤1048576→0≤f x n→f x n≤n) (hl:l.length<2 ^ 63) (h0:0≤n) (hn:n≤1048576) (h:0≤szL f l n):∀x,x∈l→∃m,0≤m∧m≤1048576∧0≤f x m:=by
 unfold szL at h
 split at h
 ·omega
 ·rename_i h1
  rw[wrap_in (by omega) (by omega)] at h h1
  exact szGo_mem (n:=n-l.length) hf (by omega) (by omega) (by omega)
theorem szL_mono {α:Type}{f:α→Int→Int}{l:List α}{n:Int} (hf:∀x,x∈l→∀n,0≤n→n≤1048576→0≤f x n→f x n≤n) (hl:l.length<2 ^ 63) (h0:0≤n) (hn:n≤1048576) (h:0≤szL f l n):szL f l n≤n∧(l.length:Int)≤n:=by
 refine⟨?_,szL_len (f:=f) hl ⟨h0,hn⟩ (by omega)⟩
 have h2:=h
 unfold szL at h⊢
 split
 ·rename_i h1;rw[if_pos h1] at h;omega
 ·rename_i h1
  rw[if_neg h1] at h
  rw[wrap_in (by omega) (by omega)] at h h1⊢
  have:=szGo_le hf (by omega) (by omega) h
  omega
end
section
variable [Envs]
variable {P:Program}
end
section
variable [Envs]
end
section
variable [Envs]
open Go.ChangeShapes Go.WideShapes Go.ChangeAt Go.RowKit
end
section
variable [Envs]
variable {P:Program}{α:Type}{c:α→List AV}
theorem CallK.own {f:FuncId}{ys:List AV}{d:Option Nat}{σ:St}{K:St→Prop}{t:Tag K}{r:AV}{hout:List (Option Blk)} (hfn:Fn P f [] ys r hout) (hfr:freshAll (d.getD 0) 0 hout.length σ=true)
  (hK:K ⟨put d (rn (phi [] (d.getD 0) hout.length) r) σ.s,aftL σ.h [] (d.getD 0) hout true []⟩):CallK P f [] ys [] d σ [] K t:=
 ⟨r,hout,true,hfn,fun h=>(by cases h),hfr,hK⟩
theorem CallK.lend {f:FuncId}{ys:List AV}{L:List Name}{d:Option Nat}{σ:St}{K:St→Prop}{t:Tag K}{r:AV}{hout:List (Option Blk)} (hfn:Fn P f [] ys r hout) (hL:Vs.flat r=true) (hb:∀b,some b∈hout→Vs.flatB b) (hfr:freshAll (d.getD 0) 0 hout.length σ=true)
  (hK:K ⟨put d (rn (phi [] (d.getD 0) hout.length) r) σ.s,aftL σ.h [] (d.getD 0) hout false L⟩):CallK P f [] ys L d σ [] K t:=
 ⟨r,hout,false,hfn,fun _=>.inr ⟨hL,hb⟩,hfr,hK⟩
theorem CallK.bor {f:FuncId}{b:Blk}{ys:List AV}{d:Option Nat}{σ:St}{n:Name}{K:St→Prop}{t:Tag K}{r:AV}{hout:List (Option Blk)} (hfn:Fn P f [b] ys r hout) (hfr:freshAll (d.getD 0) 1 hout.length σ=true)
  (hK:K ⟨put d (rn (phi [n] (d.getD 0) hout.length) r) σ.s,aftL σ.h [n] (d.getD 0) hout true []⟩):CallK P f [b] ys [] d σ [n] K t:=
 ⟨r,hout,true,hfn,fun h=>(by cases h),hfr,hK⟩
theorem flatB_E {k:Nat}{l:List α}{z:Bool} (h:∀x,flatL (c x)=true):flatB (.arr k (E c l) z):=by
 intro r hr
 obtain⟨x,_,rfl⟩:=List.mem_map.1 hr
 exact h x
attribute [local go_sem] reduceIte reduceCtorEq Nat.reduceEqDiff in
theorem toS_own (hm:P.follows .mixedOrders=true) {f:FuncId}{fn:Func}{k y:Nat}{z:List AV}{g:FuncId}{nt:Nat} (h:CodeIsR P f fn (toS_code k y z g)) (hnt:fn.ntmps=nt) (hrs:fn.results.toList=[.tmp 2]) (hna:Nat.ble 1 nt=true)
  (hk:∀x,(c x).length=k) (hk0:0<k) (hz:z.length=k) (hzz:zeroB z=true) (hcb:∀x,cellsB (c x)=true) {l:List α} (hg:∀x,x∈l→Fn P g [] [.agg (c x)] (.agg (c x)) []) (hl:l.length≤1048576) (hy:y≤1024) :
  Fn P f [] [.sl k (E c l)] (.loc (.b 0) 0 l.length) [some (.arr k (E c l) false)]:=by
 refine h.fn hm (hin:=[]) nt _ [.t 7 0] [.arr k (E c l) false] hnt hrs rfl (by simpa using Nat.le_of_ble_eq_true hna) rfl (by simp) fun X=>?_
 unfold toS_code
 simp -dsimp only[go_sem]
 have hly:(l.length:Int)*(y:Int)≤2 ^ 47:=by
  have h1:l.length*y≤1048576*1024:=Nat.mul_le_mul hl hy
  have h2:((l.length*y:Nat):Int)≤((1048576*1024:Nat):Int):=Int.ofNat_le.2 h1
  rw[Int.natCast_mul] at h2
  omega
 refine⟨⟨by omega,hly,by omega,hz,by have:=zero_all hzz (fun _=>none);simpa -dsimp only[go_sem] using this⟩,?_⟩
 refine LoopK.intro (drawn_ok hm) (fun i:{i:Nat // i≤l.length}=>⟨[(0,.sl k (E c l)),(3,.loc (.t 7 0) 0 l.length),(4,.v (.int .i64 i.1))],
   [(.t 7 0,.arr k (E c (l.take i.1)++List.replicate (l.length-i.1) z) false)]⟩) (fun i=>l.length-i.1) ⟨0,by omega⟩ ?_ ?_
 ·simp[LeL,look,hlook,E]
 ·rintro⟨i,hi⟩
  simp -dsimp only[go_sem]
  refine Br.mk (fun h1=>?_) fun h1=>?_
  ·have hlt:i<l.length:=by simpa using h1
   have hw:=wrap_succ hlt hl
   have ht:(c l[i]).take k=c l[i]:=List.take_of_length_le (by rw[hk];exact Nat.le_refl _)
   simp -dsimp only[go_sem,E_get hlt,ht,conv_cells (hcb l[i]) _ 6]
   refine⟨⟨by omega,by omega⟩,by rw[hk];exact Nat.le_refl _,?_⟩
   refine CallK.pure (hg _ (List.getElem_mem hlt)) ?_
   simp -dsimp only[go_sem,rn_cells (hcb l[i]),E_rget hlt,all_one (hcb l[i])]
   refine⟨⟨by omega,by omega⟩,⟨hk0,hk _,by rw[hz];exact Nat.le_refl _,clo_cells (hcb _)⟩,?_⟩
   have e:=E_set (c:=c) hlt (x:=lay z 0 (c l[i])) (lay_cells (by rw[hz,hk])) z
   simp -dsimp only[go_sem,hw,e]
   exact⟨⟨i+1,by omega⟩,by simp[LeL,look,hlook],by simp only;omega⟩
  ·have hge:i=l.length:=by
    have:¬i<l.length:=by simpa using h1
    omega
   subst hge
   simp -dsimp only[go_sem,E_all]
   exact⟨⟨_,_,rfl,rfl⟩,by simp⟩
attribute [local go_sem] reduceIte reduceCtorEq Nat.reduceEqDiff in
theorem toI_own (hm:P.follows .mixedOrders=true) {f:FuncId}{fn:Func}{nt:Nat} (h:CodeIsR P f fn toI_code) (hnt:fn.ntmps=nt) (hrs:fn.results.toList=[.tmp 2]) (hna:Nat.ble 1 nt=true)
  {l:List Int} (hl:l.length≤1048576):Fn P f [] [.sl 1 (E cI l)] (.loc (.b 0) 0 l.length) [some (.arr 1 (E cI l) false)]:=by
 refine h.fn hm (hin:=[]) nt _ [.t 7 0] [.arr 1 (E cI l) false] hnt hrs rfl (by simpa using Nat.le_of_ble_eq_true hna) rfl (by simp) fun X=>?_
 unfold toI_code
 simp -dsimp only[go_sem]
 refine⟨⟨by omega,by omega,by omega⟩,?_⟩
 refine LoopK.intro (drawn_ok hm) (fun i:{i:Nat // i≤l.length}=>⟨[(0,.sl 1 (E cI l)),(3,.loc (.t 7 0) 0 l.length),(4,.v (.int .i64 i.1))],
   [(.t 7 0,.arr 1 (E cI (l.take i.1)++List.replicate (l.length-i.1) [.v (.int .i64 0)]) false)]⟩) (fun i=>l.length-i.1) ⟨0,by omega⟩ ?_ ?_
 ·simp[LeL,look,hlook,E]
 ·rintro⟨i,hi⟩
  simp -dsimp only[go_sem]
  refine Br.mk (fun h1=>?_) fun h1=>?_
  ·have hlt:i<l.length:=by simpa using h1
   have hw:=wrap_succ hlt hl
   simp -dsimp only[go_sem,cI_get hlt,E_rget hlt,hw]
   have e:=E_set (c:=cI) hlt (x:=[.v (.int .i64 l[i])]) rfl [.v (.int .i64 0)]
   rw[e]
   exact⟨⟨by omega,by omega⟩,⟨by omega,by omega⟩,by omega,⟨i+1,by omega⟩,by simp[LeL,look,hlook],by simp only;omega⟩
  ·have hge:i=l.length:=by
    have:¬i<l.length:=by simpa using h1
    omega
   subst hge
   simp -dsimp only[go_sem,E_all]
   exact⟨⟨_,_,rfl,rfl⟩,by simp⟩
def mkR (m:Nat→α) (l:List α) (i:Nat):List α:=(List.range i).map m++l.drop i
theorem mkR_zero (m:Nat→α) (l:List α):mkR m l 0=l:=by simp[mkR]
theorem mkR_all (m:Nat→α) (l:List α):mkR m l l.length=(List.range l.length).map m:=by simp[mkR]
theorem mkR_length (m:Nat→α) (l:List α) {i:Nat} (h:i≤l.length):(mkR m l i).length=l.length:=by simp[mkR];omega
theorem mkR_get (m:Nat→α) (l:List α) {i:Nat} (h:i<l.length):(E c (mkR m l i)).getD i []=c l[i]:=by
 rw[E_get (by rw[mkR_length m l (by omega)];exact h)]
 simp[mkR]
theorem mkR_set (m:Nat→α) (l:List α) {i:Nat} (h:i<l.length):(E c (mkR m l i)).set i (c (m i))=E c (mkR m l (i+1)):=by
 have e:(mkR m l i).set i (m i)=mkR m l (i+1):=by
  apply List.ext_getElem
  ·rw[List.length_set,mkR_length m l (by omega),mkR_length m l (by omega)]
  ·intro j h1 h2
   rw[List.length_set,mkR_length m l (by omega)] at h1
   rw[List.getElem_set]
   split
   ·rename_i e;subst e
    simp[mkR,List.getElem_append]
   ·simp only[mkR,List.getElem_append,List.length_map,List.length_range,List.getElem_map,List.getElem_range,List.getElem_drop]
    split<;>split
    ·rfl
    ·omega
    ·omega
    ·congr 1;omega
 rw[←e]
 simp[E,List.map_set]
theorem set_get {R:List (List AV)}{i:Nat} (h:i<R.length) (r:List AV):(R.set i r).getD i []=r:=by
 simp[List.getD,List.getElem?_set,h]
theorem vc_mono {K K':St→Prop} (hK:∀σ,K σ→K' σ):∀(ops:List AOper) (σ:St),vc P K ops σ→vc P K' ops σ
 | [],σ,hv=>hK σ hv
 |_::r,_,hv=>vc_cons.2 (vc1_mono (fun σ' h=>vc_mono hK r σ' h) (vc_cons.1 hv))
end
end Go.Vs
