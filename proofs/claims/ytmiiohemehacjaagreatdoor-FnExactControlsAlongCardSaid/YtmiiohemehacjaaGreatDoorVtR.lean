/- Copies that are handed over, to be written; rows that are marked one by one. -/
import Derived.Test.YtmiiohemehacjaaGreatDoorVtP
import Derived.LaidMore
import Derived.Lib.LaidTab
import Derived.MakeChecks
import Derived.Stop.LaidErr
import Derived.Test.YtmiiohemehacjaaGreatDoorVtO
set_option linter.all false
set_option maxHeartbeats 8000000
namespace Go.Vs
section
variable [Envs]
open Go.ChangeShapes Go.WideShapes Go.ChangeAt Go.RowKit
theorem law_returns_and {C:Checked}{os:Os}{s:ChangeSpec}{f:FuncId}{fn:Func}{dom:List PathCond}{H:Type}{enc:TypeId×Value->H}{tb:TypeId}{A:Type}{e:A->List AV}{X:World->Array Value->Prop}
  (hX:∀(w w':World) (args:Array Value),w.heap=w'.heap->X w args->X w' args) (Z:∀W args,X W args->Env (λb=>b<W.heap.size) W)
  (own:ownKnob C.prog.godebug=none) (J:os.Started) (O:C.prog.inits.idxOf? f=none) (he:C.prog.funcs[f]? = some fn)
  (L:∃(w:World) (F:Tape) (i:Input),w.os=os∧(w.forCall F i).Shaped C.prog∧i.vars=[]∧Input.okWide C.prog (w.forCall F i) .any w.heap.size f i∧
    ((s.pre enc C.prog fn dom false (w.forCall F i).memory i.args∧X (w.forCall F i).memory i.args)∧sizedMet enc C.prog fn (OpenSpec.ofChange s) false (w.forCall F i).memory i.args)∧Assume.holds {} C.prog (lone (Frame.enter C.prog f i.args .normal) [] (w.forCall F i)))
  (hl:laidOutB C.prog=true) (hg:(fn.params.toList.all λt=>C.prog.readableRec t&&decide (t<C.prog.types.size))=true) (hf:fn.resultTypes=#[tb]) (hh:C.prog.underlying tb=some .bool)
  (I:s.vars=[]) (hs:∀U:List (DataW H),U.length=fn.params.toList.length->(s.fn H (U++[])).results=[.lit (.bool true)]∧(s.fn H (U++[])).args=U∧(s.fn H (U++[])).vars=[])
  (Y:Args C.prog fn.params.toList e) (ha:∀a,Fn C.prog f [] (e a) (.v (.bool true)) []) :
  ReturnsInHanded {} C os f .any (λw args=>(s.pre enc C.prog fn dom false w args∧X w args)∧sizedMet enc C.prog fn (OpenSpec.ofChange s) false w args) (s.post enc C.prog fn false true false false):=by
 refine returnsInHanded_of_change_and hX own J O he L ?_;intro W base args U gs hc hb hW _ _ hx _;have hd:=hW;obtain⟨p,q,hA,hV,rfl,hk,hm⟩:=hW;rw[I] at hV;obtain⟨rfl,rfl⟩:=trodVars_none hV;obtain⟨a,h1,h2⟩:=Y H enc W base args.toList U p (λj t v ht hv=>hb j t v (by simpa using ht) (by simpa using hv)) hA;refine aKr hl hg hf hh hd I (hs U (aBw hA)) (Z W args hx) (ha a) (by simpa using h1.symm) λj hj=>?_;have:=h2 j (by rw[h1] at hj;exact hj)
 rwa [getD_toList] at this
end
section
variable [Envs]
variable {P:Program}{α:Type}{c:α->List AV}
theorem aD.own {f:FuncId}{ys:List AV}{d:Option Nat}{σ:St}{K:St->Prop}{t:Tag K}{r:AV}{F:List (Option Blk)} (H:Fn P f [] ys r F) (I:kE (d.getD 0) 0 F.length σ=true)
  (J:K ⟨put d (rn (phi [] (d.getD 0) F.length) r) σ.s,zD σ.h [] (d.getD 0) F true []⟩):aD P f [] ys [] d σ [] K t:=
 ⟨r,F,true,H,λh=>(by cases h),I,J⟩
theorem aD.lend {f:FuncId}{ys:List AV}{L:List Name}{d:Option Nat}{σ:St}{K:St->Prop}{t:Tag K}{r:AV}{F:List (Option Blk)} (H:Fn P f [] ys r F) (O:Vs.flat r=true) (U:∀b,some b∈F->Vs.iD b) (I:kE (d.getD 0) 0 F.length σ=true)
  (J:K ⟨put d (rn (phi [] (d.getD 0) F.length) r) σ.s,zD σ.h [] (d.getD 0) F false L⟩):aD P f [] ys L d σ [] K t:=
 ⟨r,F,false,H,λ_=>.inr ⟨O,U⟩,I,J⟩
theorem aD.bor {f:FuncId}{b:Blk}{ys:List AV}{d:Option Nat}{σ:St}{n:Name}{K:St->Prop}{t:Tag K}{r:AV}{F:List (Option Blk)} (H:Fn P f [b] ys r F) (I:kE (d.getD 0) 1 F.length σ=true)
  (J:K ⟨put d (rn (phi [n] (d.getD 0) F.length) r) σ.s,zD σ.h [n] (d.getD 0) F true []⟩):aD P f [b] ys [] d σ [n] K t:=
 ⟨r,F,true,H,λh=>(by cases h),I,J⟩
theorem aCb {k:Nat}{l:List α}{z:Bool} (h:∀x,iV (c x)=true):iD (.arr k (E c l) z):=by
 intro r F;obtain⟨x,_,rfl⟩:=List.mem_map.1 F;exact h x
attribute [local go_sem] reduceIte reduceCtorEq Nat.reduceEqDiff in
theorem aHD (hm:P.follows .mixedOrders=true) {f:FuncId}{fn:Func}{k y:Nat}{z:List AV}{g:FuncId}{nt:Nat} (h:bW P f fn (aAd k y z g)) (hnt:fn.ntmps=nt) (hrs:fn.results.toList=[.tmp 2]) (hna:Nat.ble 1 nt=true)
  (hk:∀x,(c x).length=k) (hk0:0<k) (hz:z.length=k) (hzz:aHv z=true) (hcb:∀x,dG (c x)=true) {l:List α} (hg:∀x,x∈l->Fn P g [] [.agg (c x)] (.agg (c x)) []) (hl:l.length<=1048576) (hy:y<=1024) :
  Fn P f [] [.sl k (E c l)] (.loc (.b 0) 0 l.length) [some (.arr k (E c l) false)]:=by
 refine h.fn hm (hin:=[]) nt _ [.t 7 0] [.arr k (E c l) false] hnt hrs rfl (by simpa using Nat.le_of_ble_eq_true hna) rfl (by simp) λX=>?_;unfold aAd;simp -dsimp only[go_sem]
 have hly:(l.length:Int)*(y:Int)<=2 ^ 47:=by
  have h1:l.length*y<=1048576*1024:=Nat.mul_le_mul hl hy;have h2:((l.length*y:Nat):Int)<=((1048576*1024:Nat):Int):=Int.ofNat_le.2 h1;rw[Int.natCast_mul] at h2;omega
 refine⟨⟨by omega,hly,by omega,hz,by have:=aCk hzz (λ_=>none);simpa -dsimp only[go_sem] using this⟩,?_⟩
 refine aN.intro (bZ hm) (λi:{i:Nat // i<=l.length}=>⟨[(0,.sl k (E c l)),(3,.loc (.t 7 0) 0 l.length),(4,.v (.int .i64 i.1))],
   [(.t 7 0,.arr k (E c (l.take i.1)++List.replicate (l.length-i.1) z) false)]⟩) (λi=>l.length-i.1) ⟨0,by omega⟩ ?_ ?_
 .simp[LeL,look,aB,E]
 .rintro⟨i,hi⟩;simp -dsimp only[go_sem];refine Br.mk (λh1=>?_) λh1=>?_
  .have hlt:i<l.length:=by simpa using h1
   have hw:=aH hlt hl;have ht:(c l[i]).take k=c l[i]:=List.take_of_length_le (by rw[hk];exact Nat.le_refl _);simp -dsimp only[go_sem,aQ hlt,ht,aG (hcb l[i]) _ 6];refine⟨⟨by omega,by omega⟩,by rw[hk];exact Nat.le_refl _,?_⟩;refine aD.pure (hg _ (List.getElem_mem hlt)) ?_;simp -dsimp only[go_sem,aFq (hcb l[i]),aDn hlt,aIt (hcb l[i])];refine⟨⟨by omega,by omega⟩,⟨hk0,hk _,by rw[hz];exact Nat.le_refl _,aEa (hcb _)⟩,?_⟩;have e:=aGt (c:=c) hlt (x:=lay z 0 (c l[i])) (aBb (by rw[hz,hk])) z;simp -dsimp only[go_sem,hw,e];exact⟨⟨i+1,by omega⟩,by simp[LeL,look,aB],by simp only;omega⟩
  .have hge:i=l.length:=by
    have:¬i<l.length:=by simpa using h1
    omega
   subst hge;simp -dsimp only[go_sem,aGu];exact⟨⟨_,_,rfl,rfl⟩,by simp⟩
attribute [local go_sem] reduceIte reduceCtorEq Nat.reduceEqDiff in
theorem aLo (hm:P.follows .mixedOrders=true) {f:FuncId}{fn:Func}{nt:Nat} (h:bW P f fn aAe) (hnt:fn.ntmps=nt) (hrs:fn.results.toList=[.tmp 2]) (hna:Nat.ble 1 nt=true)
  {l:List Int} (hl:l.length<=1048576):Fn P f [] [.sl 1 (E cI l)] (.loc (.b 0) 0 l.length) [some (.arr 1 (E cI l) false)]:=by
 refine h.fn hm (hin:=[]) nt _ [.t 7 0] [.arr 1 (E cI l) false] hnt hrs rfl (by simpa using Nat.le_of_ble_eq_true hna) rfl (by simp) λX=>?_;unfold aAe;simp -dsimp only[go_sem];refine⟨⟨by omega,by omega,by omega⟩,?_⟩
 refine aN.intro (bZ hm) (λi:{i:Nat // i<=l.length}=>⟨[(0,.sl 1 (E cI l)),(3,.loc (.t 7 0) 0 l.length),(4,.v (.int .i64 i.1))],
   [(.t 7 0,.arr 1 (E cI (l.take i.1)++List.replicate (l.length-i.1) [.v (.int .i64 0)]) false)]⟩) (λi=>l.length-i.1) ⟨0,by omega⟩ ?_ ?_
 .simp[LeL,look,aB,E]
 .rintro⟨i,hi⟩;simp -dsimp only[go_sem];refine Br.mk (λh1=>?_) λh1=>?_
  .have hlt:i<l.length:=by simpa using h1
   have hw:=aH hlt hl;simp -dsimp only[go_sem,bY hlt,aDn hlt,hw];have e:=aGt (c:=cI) hlt (x:=[.v (.int .i64 l[i])]) rfl [.v (.int .i64 0)];rw[e];exact⟨⟨by omega,by omega⟩,⟨by omega,by omega⟩,by omega,⟨i+1,by omega⟩,by simp[LeL,look,aB],by simp only;omega⟩
  .have hge:i=l.length:=by
    have:¬i<l.length:=by simpa using h1
    omega
   subst hge;simp -dsimp only[go_sem,aGu];exact⟨⟨_,_,rfl,rfl⟩,by simp⟩
def mkR (m:Nat->α) (l:List α) (i:Nat):List α:=(List.range i).map m++l.drop i
theorem aAA (m:Nat->α) (l:List α):mkR m l 0=l:=by simp[mkR]
theorem aLV (m:Nat->α) (l:List α):mkR m l l.length=(List.range l.length).map m:=by simp[mkR]
theorem fI (m:Nat->α) (l:List α) {i:Nat} (h:i<=l.length):(mkR m l i).length=l.length:=by simp[mkR];omega
theorem aB1 (m:Nat->α) (l:List α) {i:Nat} (h:i<l.length):(E c (mkR m l i)).getD i []=c l[i]:=by
 rw[aQ (by rw[fI m l (by omega)];exact h)];simp[mkR]
theorem aB0 (m:Nat->α) (l:List α) {i:Nat} (h:i<l.length):(E c (mkR m l i)).set i (c (m i))=E c (mkR m l (i+1)):=by
 have e:(mkR m l i).set i (m i)=mkR m l (i+1):=by
  apply List.ext_getElem
  .rw[List.length_set,fI m l (by omega),fI m l (by omega)]
  .intro j F h2;rw[List.length_set,fI m l (by omega)] at F;rw[List.getElem_set];split
   .rename_i e;subst e;simp[mkR,List.getElem_append]
   .simp only[mkR,List.getElem_append,List.length_map,List.length_range,List.getElem_map,List.getElem_range,List.getElem_drop];split<;>split
    .rfl
    .omega
    .omega
    .congr 1;omega
 rw[←e];simp[E,List.map_set]
theorem aEy {R:List (List AV)}{i:Nat} (h:i<R.length) (r:List AV):(R.set i r).getD i []=r:=by
 simp[List.getD,List.getElem?_set,h]
theorem aBS {K F:St->Prop} (H:∀σ,K σ->F σ):∀(ops:List aJ) (σ:St),vc P K ops σ->vc P F ops σ
 | [],σ,hv=>H σ hv
 |_::r,_,hv=>aEk.2 (aAb (fun σ' h=>aBS H r σ' h) (aEk.1 hv))
end
end Go.Vs
