/- The deck that arises by a step: the reference. -/
import Derived.Test.YtonkjfiffcfaoaaGreatUwVm
import Derived.Test.YtonkjfiffcfaoaaGreatUuO
import Derived.Test.YtonkjfiffcfaoaaGreatUwVf
import Derived.Test.YtonkjfiffcfaoaaGreatVtR
import Derived.Test.YtonkjfiffcfaoaaGreatUuS
set_option linter.all false
set_option maxHeartbeats 8000000
namespace Go.Proofs.YtonkjfiffcfaoaaGreat
open Go.Vs
section
variable [Vs.Envs]
attribute [local irreducible] Vs.Fn bH mgC iU mtC iJ sP mat zN cZ aW dA dB l03 chB rk cd3 chI stp aY
def stC (x:Stp) (o:Off):Int:=if x.kind=7 then(if 20≤o.totals.length then 5 else if nG x.f0 x.f1 x.s0 x.s1 (tr o.trays x.a) then 0 else 8) else dkC x (tr o.trays x.a) (tr o.trays x.b)
def stO (x:Stp) (o:Off):Off:=if x.kind=7 then⟨o.trays,o.totals++[oK x.f0 x.f1 x.s0 x.s1 (tr o.trays x.a)]⟩ else⟨o.trays.set x.to.toNat (dkL x (tr o.trays x.a) (tr o.trays x.b)),o.totals⟩
def dsC (x:Stp) (o:Off):Int:=if dV x (wO o.trays) then stC x o else 2
def run:Off→List Stp→Off×Nat
 |o,[]=>(o,0)
 |o,x::r=>if dsC x o=0 then((run (stO x o) r).1,(run (stO x o) r).2+1) else(o,0)
def okD (w:Nat) (d:List (List Int)):Prop:=aX d=true∧∀c,c∈d→c.length=w
def okO (w:Nat) (o:Off):Prop:=(1≤w∧w≤20)∧o.trays.length=6∧(∀d,d∈o.trays→okD w d)∧o.totals.length≤20∧∀t,t∈o.totals→aFs t
theorem qG {w:Nat}{d:List (List Int)} (hw:w≤20) (h:okD w d):bE d:=by
 have h4:=kX h.1;exact⟨by omega,fun c hc=>by rw[h.2 c hc];omega⟩
theorem jP {w:Nat}{o:Off} (h:okO w o):yV o:=by
 obtain⟨hw,h6,hd,ht,hs⟩:=h;exact⟨⟨by omega,fun d hdd=>qG hw.2 (hd d hdd)⟩,⟨by omega,hs⟩⟩
theorem aGe {w:Nat}:∀T:List (List (List Int)),(∀d,d∈T→okD w d)→wO T=w∨(wO T=20∧∀d,d∈T→d.length=0)
 | [],_=>.inr ⟨rfl,fun d hd=>absurd hd (by simp)⟩
 | d::r,h=>by
  unfold wO;by_cases h0:d.length=0
  ·rw[if_pos h0];rcases aGe r fun e he=>h e (List.mem_cons_of_mem _ he) with h1|⟨h1,h2⟩
   ·exact .inl h1
   ·refine .inr ⟨h1,fun e he=>?_⟩;rcases List.mem_cons.1 he with rfl|he
    ·exact h0
    ·exact h2 e he
  ·rw[if_neg h0];refine .inl ((h d (List.mem_cons_self ..)).2 _ ?_);rw[show d.getD 0 []=d[0]'(by omega) by simp[List.getD,(by omega:0<d.length)]];exact List.getElem_mem _
theorem aKn {w:Nat}{d:List (List Int)} (h:okD w d):bD d=20∧d.length=0∨bD d=w∧d.length≠0:=by
 unfold bD;by_cases h0:d.length=0
 ·rw[if_pos h0];exact .inl ⟨rfl,h0⟩
 ·rw[if_neg h0,h.2 (d.getD 0 []) (by rw[show d.getD 0 []=d[0]'(by omega) by simp[List.getD,(by omega:0<d.length)]];exact List.getElem_mem _)];exact .inr ⟨rfl,h0⟩
theorem vK {a b v w:Int} (h:v≤w) (hf:dU a b v=true):dU a b w=true:=by
 simp only[dU,Bool.and_eq_true,decide_eq_true_eq] at hf⊢;omega
theorem aAS {a b v w:Int} (h:v≤w) (hf:uY a b v=true):uY a b w=true:=by
 unfold uY at hf⊢;rw[Bool.and_eq_true] at hf⊢;exact⟨vK h hf.1,hf.2⟩
theorem pI {w:Nat}{o:Off} (h:okO w o) {d:List (List Int)} (hd:d∈o.trays):(wO o.trays:Int)≤bD d:=by
 rcases aKn (h.2.2.1 d hd) with⟨h1,_⟩|⟨h1,h2⟩
 ·rcases aGe o.trays h.2.2.1 with h3|⟨h3,_⟩
  ·rw[h1,h3];have:=h.1.2;omega
  ·rw[h1,h3];omega
 ·rcases aGe o.trays h.2.2.1 with h3|⟨h3,h4⟩
  ·rw[h1,h3];omega
  ·exact absurd (h4 d hd) h2
theorem wO_in {w:Nat}{o:Off} (h:okO w o):inB (wO o.trays:Int) 1 20=true:=by
 have:=h.1;rcases aGe o.trays h.2.2.1 with h3|⟨h3,_⟩<;>rw[h3]<;>simp[inB]<;>omega
structure aLm (x:Stp) (o:Off):Prop where
 k:1≤x.kind∧x.kind≤7
 a:0≤x.a∧x.a<(o.trays.length:Int)
 b:0≤x.b∧x.b<(o.trays.length:Int)
 to:0≤x.to∧x.to<(o.trays.length:Int)
 f:dU x.f0 x.f1 (wO o.trays)=true
 n:x.kind=7→uY x.s0 x.s1 (wO o.trays)=true
theorem wC {w:Nat}{o:Off} (h:okO w o) {x:Stp} (hx:dV x (wO o.trays)=true):aLm x o:=by
 unfold dV at hx;simp only[Bool.and_eq_true] at hx;obtain⟨hk,ha,hb,ht,hf,_,hr⟩:=hx;simp only[inB,Bool.and_eq_true,decide_eq_true_eq] at hk ha hb ht;have h6:=h.2.1;refine⟨hk,⟨by omega,by omega⟩,⟨by omega,by omega⟩,⟨by omega,by omega⟩,hf,fun h7=>?_⟩;rw[if_pos (by simp[h7])] at hr;simp only[Bool.and_eq_true] at hr;exact hr.2.1
theorem aAR {w:Nat}{a b m:List (List Int)} (ha:okD w a) (hb:okD w b) (hm:∀c,c∈m→c∈a∨c∈b) (hl:m.length≤40):okD w m:=by
 have hw:∀c,c∈m→c.length=w:=fun c hc=>(hm c hc).elim (ha.2 c) (hb.2 c)
 have hc1:∀c,c∈m→gF c=true:=fun c hc=>by
  have h1:=ha.1;have h2:=hb.1;simp only[aX,Bool.and_eq_true,List.all_eq_true,decide_eq_true_eq] at h1 h2;rcases hm c hc with h|h
  ·exact(h1.1 c h).1
  ·exact(h2.1 c h).1
 refine⟨?_,hw⟩;simp only[aX,Bool.and_eq_true,List.all_eq_true,decide_eq_true_eq];refine⟨fun c hc=>⟨hc1 c hc,?_⟩,hl⟩;have h0:0<m.length:=List.length_pos_of_mem hc;have hm0:m.getD 0 []∈m:=by rw[show m.getD 0 []=m[0] by simp[List.getD,h0]];exact List.getElem_mem _
 rw[hw c hc,hw _ hm0]
theorem aJe {fr to:Int}{l:List (List Int)}:∀c,c∈sP fr to l→c∈l:=by
 intro c hc;unfold sP at hc;obtain⟨i,hi,rfl⟩:=List.mem_map.1 hc;exact mU (aAZ i hi)
theorem aJf (fr to:Int) (l:List (List Int)):(sP fr to l).length≤l.length:=by
 unfold sP;rw[List.length_map];exact jT fr to l l.length
theorem aGP {q:List Int→Bool}{l:List (List Int)}:∀c,c∈flt q l→c∈l:=fun c hc=>(List.mem_filter.1 hc).1
theorem aIR {fr to:Int}{l o:List (List Int)}{e:Bool}:∀c,c∈mat fr to l o e→c∈l:=by unfold mat;exact aGP
theorem aLg (fr to:Int) (l o:List (List Int)) (e:Bool):(mat fr to l o e).length≤l.length:=by unfold mat;exact yJ _ _
theorem aKt {fr to:Int}{a b:List (List Int)} (h:mgC fr to a b=0):a.length+b.length≤40:=by
 unfold mgC at h;split at h
 ·split at h
  ·cases h
  ·split at h
   ·split at h
    ·cases h
    ·omega
   ·cases h
 ·contradiction
theorem dk_ok {w:Nat}{x:Stp}{a b:List (List Int)} (ha:okD w a) (hb:okD w b) (fa:dU x.f0 x.f1 (bD a)=true) (fb:dU x.f0 x.f1 (bD b)=true) (hc:dkC x a b=0):okD w (dkL x a b):=by
 have oa:=fA ha.1 fa;have ob:=fA hb.1 fb;have la:=kX ha.1;have lb:=kX hb.1;unfold dkC at hc;unfold dkL;by_cases h1:x.kind=1
 ·rw[if_pos h1] at hc⊢;exact aAR ha hb (fun c h=>.inl (aEg oa la c h)) (by rw[aEh];exact la)
 rw[if_neg h1] at hc⊢;by_cases h2:x.kind=2
 ·rw[if_pos h2] at hc⊢;have hl:=aKt hc;have hab:(a++b).length≤40:=by rw[List.length_append];exact hl
  refine aAR ha hb (fun c h=>?_) (by rw[aEh];exact hab);exact List.mem_append.1 (aEg (fun c h=>(List.mem_append.1 h).elim (oa c) (ob c)) hab c h)
 rw[if_neg h2] at hc⊢;by_cases h5:x.kind=5
 ·rw[if_pos h5];exact aAR ha hb (fun c h=>.inl (aGP c h)) (Nat.le_trans (yJ _ _) la)
 rw[if_neg h5];by_cases h6:x.kind=6
 ·rw[if_pos h6];exact aAR ha hb (fun c h=>.inl (aJe c h)) (Nat.le_trans (aJf _ _ _) la)
 rw[if_neg h6];split
 ·exact aAR ha hb (fun c h=>.inl (aIR c h)) (Nat.le_trans (aLg _ _ _ _ _) la)
 ·exact aAR ha hb (fun c h=>.inl (aIR c h)) (Nat.le_trans (aLg _ _ _ _ _) la)
theorem aFo {fr to sf st:Int}{l:List (List Int)}{w:Nat} (hw:w≤20) (h:okD w l):aFs (oK fr to sf st l):=by
 have h4:=kX h.1;have hg:=aE0 fr to l;refine⟨by unfold oK;rw[List.length_map];omega,fun t ht=>?_⟩;unfold oK at ht;obtain⟨g,hgm,rfl⟩:=List.mem_map.1 ht;obtain⟨g0,_,gm⟩:=aEZ hgm;have hc:g.getD 0 []∈l:=gm _ (by rw[show g.getD 0 []=g[0] by simp[List.getD,g0]];exact List.getElem_mem _);show(txt (fH fr to (g.getD 0 []))).size≤1048576
 rw[aBT];unfold fH;rw[List.length_drop,List.length_take,h.2 _ hc];omega
theorem st_ok {w:Nat}{o:Off}{x:Stp} (h:okO w o) (hx:aLm x o) (hc:stC x o=0):okO w (stO x o):=by
 have h6:=h.2.1;have ma:=gG hx.a;have mb:=gG hx.b;unfold stC at hc;unfold stO;by_cases h7:x.kind=7
 ·rw[if_pos h7] at hc⊢;refine⟨h.1,h6,h.2.2.1,?_,fun t ht=>?_⟩
  ·rw[List.length_append,List.length_singleton];split at hc
   ·cases hc
   ·omega
  ·rcases List.mem_append.1 ht with ht|ht
   ·exact h.2.2.2.2 t ht
   ·rw[List.mem_singleton.1 ht];exact aFo h.1.2 (h.2.2.1 _ ma)
 ·rw[if_neg h7] at hc⊢;refine⟨h.1,by simpa using h6,fun d hd=>?_,h.2.2.2.1,h.2.2.2.2⟩;rcases List.mem_or_eq_of_mem_set hd with hd|rfl
  ·exact h.2.2.1 d hd
  ·exact dk_ok (h.2.2.1 _ ma) (h.2.2.1 _ mb) (vK (pI h ma) hx.f) (vK (pI h mb) hx.f) hc
theorem aGS {w:Nat}{o:Off}{x:Stp} (h:okO w o) (hc:dsC x o=0):okO w (stO x o):=by
 unfold dsC at hc;split at hc
 ·rename_i hx;exact st_ok h (wC h hx) hc
 ·cases hc
theorem aDF {w:Nat}:∀(fl:List Stp) (o:Off),okO w o→okO w (run o fl).1∧(run o fl).2≤fl.length
 | [],o,h=>⟨h,Nat.le_refl _⟩
 | x::r,o,h=>by
  unfold run;by_cases hc:dsC x o=0
  ·rw[if_pos hc];obtain⟨h1,h2⟩:=aDF r (stO x o) (aGS h hc);exact⟨h1,Nat.succ_le_succ h2⟩
  ·rw[if_neg hc];exact⟨h,Nat.zero_le _⟩
def aCL (o:Off) (fl:List Stp) (i:Nat) (o':Off):Prop:=run o fl=((run o' (fl.drop i)).1,(run o' (fl.drop i)).2+i)
theorem aC0 (o:Off) (fl:List Stp):aCL o fl 0 o:=rfl
theorem aAO {o o':Off}{fl:List Stp}{i:Nat} (hi:i<fl.length) (h:aCL o fl i o') (hc:dsC fl[i] o'=0):aCL o fl (i+1) (stO fl[i] o'):=by
 unfold aCL at h⊢;rw[List.drop_eq_getElem_cons hi,run,if_pos hc] at h;rw[h];simp only[Prod.mk.injEq,true_and];omega
theorem tL {o o':Off}{fl:List Stp}{i:Nat} (hi:i<fl.length) (h:aCL o fl i o') (hc:dsC fl[i] o'≠0):run o fl=(o',i):=by
 unfold aCL at h;rw[List.drop_eq_getElem_cons hi,run,if_neg hc] at h;rw[h,Nat.zero_add]
theorem aBY {o o':Off}{fl:List Stp} (h:aCL o fl fl.length o'):run o fl=(o',fl.length):=by
 unfold aCL at h;rw[List.drop_length,run] at h;rw[h,Nat.zero_add]
end
section
variable [Vs.Envs]
attribute [local irreducible] Vs.Fn bH mgC iU mtC iJ sP mat zN dkC dkL nG oK dV wO cZ aW dA dB l03 chB rk cd3 chI stp aY
def noO:AV:=.agg [.v (.slice none 0 0),.v (.slice none 0 0)]
def dsV (x:Stp) (o:Off):AV:=if dsC x o=0 then .agg (cO (stO x o)) else noO
theorem aGb (m:List (List (List Int))) (i:Nat) (d:List (List Int)):(E cD m).set i [.sl 1 (E cC d)]=E cD (m.set i d):=by simp[E,List.map_set,cD]
theorem aJQ (m:List (List Tot)) (t:List Tot):E cTs m++[[.sl 2 (E cT t)]]=E cTs (m++[t]):=by rw[aR];rfl
theorem aDy {fr to sf st:Int}{l:List (List Int)} (h:nG fr to sf st l=true):vS fr to sf st l=.sl 2 (E cT (oK fr to sf st l)):=by unfold vS;rw[if_pos h];rfl
theorem aDz {fr to sf st:Int}{l:List (List Int)} (h:nG fr to sf st l=false):vS fr to sf st l=.v (.slice none 0 0):=by unfold vS;rw[h];rfl
theorem aFZ {x:Stp}{a b:List (List Int)} (h:dkC x a b=0):dkV x a b=.sl 1 (E cC (dkL x a b)):=by unfold dkV;rw[if_pos h]
theorem aF0 {x:Stp}{a b:List (List Int)} (h:dkC x a b≠0):dkV x a b=.v (.slice none 0 0):=by unfold dkV;rw[if_neg h]
theorem ds_dk {x:Stp}{o:Off} (hv:dV x (wO o.trays)=true) (h7:x.kind≠7):dsC x o=dkC x (tr o.trays x.a) (tr o.trays x.b):=by unfold dsC stC;rw[if_pos hv,if_neg h7]
theorem aK6 {x:Stp}{o:Off} (h7:x.kind≠7):stO x o=⟨o.trays.set x.to.toNat (dkL x (tr o.trays x.a) (tr o.trays x.b)),o.totals⟩:=by unfold stO;rw[if_neg h7]
theorem aLY {x:Stp}{o:Off} (hv:dV x (wO o.trays)=true) (h7:x.kind=7):dsC x o=if 20≤o.totals.length then 5 else if nG x.f0 x.f1 x.s0 x.s1 (tr o.trays x.a) then 0 else 8:=by unfold dsC stC;rw[if_pos hv,if_pos h7]
theorem aIa {x:Stp}{o:Off} (h7:x.kind=7):stO x o=⟨o.trays,o.totals++[oK x.f0 x.f1 x.s0 x.s1 (tr o.trays x.a)]⟩:=by unfold stO;rw[if_pos h7]
attribute [local go_sem] Int.reduceBEq Int.reduceBNe cC cFd aG List.replicate_succ List.replicate_zero List.flatten_cons List.flatten_nil List.cons_append List.nil_append List.set_cons_zero List.set_cons_succ List.length_cons List.length_nil List.length_set List.mem_singleton List.mem_cons List.not_mem_nil or_false false_or Vs.Name.t.injEq List.getD_cons_zero List.getD_cons_succ in
theorem aLZ (x:Stp) (hz:x.text.size≤1048576) (o:Off) (w:Nat) (ho:okO w o):Fz F.wY [.agg (cO o),.agg (cS x)] (.tup [dsV x o,.v (.int .i64 (dsC x o))]):=by
 have hso:=jP ho;have OC:=aCM o hso;have NO:=aHu o hso;have VS:=wV x (wO o.trays:Int) hz;rw[wO_in ho,Bool.true_and] at VS;have hd6:=ho.2.1;have ht20:=ho.2.2.2.1;cases hv:dV x (wO o.trays)
 ·rw[hv] at VS;rw[show dsC x o=2 by unfold dsC;rw[hv];rfl,show dsV x o=noO by unfold dsV dsC;rw[hv];rfl];refine fn0 Cd.i_doStep_k fun X=>?_
  repeat' first|simp -dsimp only[go_sem,noO,cO,cS]|apply Br.mk<;>intro h<;>try simp -dsimp only[h]|refine aA.c (by first|exact VS|exact OC) ?_|refine aC ?_|fail
  all_goals first|omega|exact⟨_,_,rfl,rfl⟩
 rw[hv] at VS;have hx:=wC ho hv;have ma:=gG hx.a;have mb:=gG hx.b;have ga:=iL hx.a;have gb:=iL hx.b;have a0:=hx.a.1;have a1:=hx.a.2;have gt:=iL hx.to;have t0:=hx.to.1;have t1:=hx.to.2;have hla:(E cD o.trays).length=o.trays.length:=aG _;have hlt:(E cTs o.totals).length=o.totals.length:=aG _;have hk1:(E cD o.trays).take o.trays.length=E cD o.trays:=List.take_of_length_le (by omega);have hk2:(E cTs o.totals).take o.totals.length=E cTs o.totals:=List.take_of_length_le (by omega);by_cases h7:x.kind=7
 ·have e7:(x.kind==7)=true:=beq_iff_eq.2 h7;rw[show dsV x o=if dsC x o=0 then .agg (cO (stO x o)) else noO from rfl,aLY hv h7,aIa h7];by_cases h20:20≤o.totals.length
  ·have e20:((o.totals.length:Int)==20)=true:=beq_iff_eq.2 (by omega);rw[if_pos h20];rw[if_neg (by decide)];refine fn0 Cd.i_doStep_k fun X=>?_
   repeat' first|simp -dsimp only[go_sem,e7,e20,noO,cO,cS]|apply Br.mk<;>intro h<;>try simp -dsimp only[h]|refine aA.own (by first|exact NO) rfl ?_|refine aA.c (by first|exact VS|exact OC) ?_|refine aC ?_|fail
   all_goals first|omega|exact⟨_,_,rfl,rfl⟩
  ·have e20:((o.totals.length:Int)==20)=false:=beq_eq_false_iff_ne.2 (by omega);rw[if_neg h20];have da:=ho.2.2.1 _ ma;have TO:=aH4 (tr o.trays x.a) x.f0 x.f1 x.s0 x.s1 (fA da.1 (vK (pI ho ma) hx.f)) (aFD da.1 (aAS (pI ho ma) (hx.n h7))) (qG ho.1.2 da).1;cases hb:nG x.f0 x.f1 x.s0 x.s1 (tr o.trays x.a)
   ·rw[aDz hb,hb] at TO;simp only[Bool.false_eq_true,if_false] at TO;rw[if_neg (by decide),if_neg (by decide)];refine fn0 Cd.i_doStep_k fun X=>?_
    repeat' first|simp -dsimp only[go_sem,e7,e20,noO,ga,cO,cS]|apply Br.mk<;>intro h<;>try simp -dsimp only[h]|refine aA.own (by first|exact NO) rfl ?_|refine aA.c (by first|exact VS|exact OC|exact TO) ?_|refine aC ?_|fail
    all_goals first|omega|exact⟨_,_,rfl,rfl⟩
   ·rw[aDy hb,hb] at TO;simp only[if_true] at TO;rw[if_pos rfl,if_pos rfl];have hsn:=aJQ o.totals (oK x.f0 x.f1 x.s0 x.s1 (tr o.trays x.a));have hk3:(E cTs (o.totals++[oK x.f0 x.f1 x.s0 x.s1 (tr o.trays x.a)])).take (o.totals.length+1)=E cTs (o.totals++[oK x.f0 x.f1 x.s0 x.s1 (tr o.trays x.a)]):=List.take_of_length_le (by rw[aG,List.length_append];exact Nat.le_refl _);refine fn0 Cd.i_doStep_k fun X=>?_
    repeat' first|simp -dsimp only[go_sem,e7,e20,ga,hla,hlt,hsn,hk1,hk2,hk3,cO,cS]|apply Br.mk<;>intro h<;>try simp -dsimp only[h]|refine aA.own (by first|exact NO) rfl ?_|refine aA.c (by first|exact VS|exact OC|exact TO) ?_|refine aC ?_|fail
    all_goals first|omega|exact⟨_,_,rfl,rfl⟩
 ·have e7:(x.kind==7)=false:=beq_eq_false_iff_ne.2 h7;rw[show dsV x o=if dsC x o=0 then .agg (cO (stO x o)) else noO from rfl,ds_dk hv h7,aK6 h7];have DK:=aEY x hz o.trays hso.1.2 hso.1.1 hx.a hx.b o.totals;by_cases h0:dkC x (tr o.trays x.a) (tr o.trays x.b)=0
  ·rw[aFZ h0] at DK;rw[h0] at DK⊢;rw[if_pos rfl];generalize dkL x (tr o.trays x.a) (tr o.trays x.b)=D at *
   have hst:=aGb o.trays x.to.toNat D;have hk3:(E cD (o.trays.set x.to.toNat D)).take o.trays.length=E cD (o.trays.set x.to.toNat D):=List.take_of_length_le (by rw[aG,List.length_set];exact Nat.le_refl _);refine fn0 Cd.i_doStep_k fun X=>?_
   repeat' first|simp -dsimp only[go_sem,e7,gt,hla,hlt,hst,hk1,hk2,hk3,cO,cS]|apply Br.mk<;>intro h<;>try simp -dsimp only[h]|refine aA.own (by first|exact NO) rfl ?_|refine aA.c (by first|exact VS|exact OC|exact DK) ?_|refine aC ?_|fail
   all_goals first|omega|exact⟨_,_,rfl,rfl⟩
  ·rw[aF0 h0] at DK;rw[if_neg h0];have e0:(dkC x (tr o.trays x.a) (tr o.trays x.b) != 0)=true:=by simp[h0]
   generalize dkC x (tr o.trays x.a) (tr o.trays x.b)=c at *
   refine fn0 Cd.i_doStep_k fun X=>?_
   repeat' first|simp -dsimp only[go_sem,e7,e0,noO,cO,cS]|apply Br.mk<;>intro h<;>try simp -dsimp only[h]|refine aA.own (by first|exact NO) rfl ?_|refine aA.c (by first|exact VS|exact OC|exact DK) ?_|refine aC ?_|fail
   all_goals first|omega|exact⟨_,_,rfl,rfl⟩
end
section
variable [Vs.Envs]
attribute [local irreducible] Vs.Fn bH mgC iU mtC iJ flt iY sP mat cZ aW dA dB l03 chB rk cd3 chI stp aY
attribute [local go_sem] Int.reduceBEq Int.reduceBNe cO cFd aG List.replicate_succ List.replicate_zero List.flatten_cons List.flatten_nil List.cons_append List.nil_append List.set_cons_zero List.set_cons_succ List.length_cons List.length_nil List.length_set List.mem_singleton List.mem_cons List.not_mem_nil or_false false_or Vs.Name.t.injEq Vs.Name.b.injEq List.getD_cons_zero List.getD_cons_succ in
theorem aEN (x:Stp) (hz:x.text.size≤1048576) (T:List (List (List Int))) (hs:∀d,d∈T→bE d) (hl:T.length≤1048576) (iA:0≤x.a∧x.a<(T.length:Int)) (iB:0≤x.b∧x.b<(T.length:Int)):Vs.Fn Tryz.prog F.bW [.var [.loc (.b 1) 0 T.length,.v (.slice none 0 0)] false,.arr 1 (E cD T) false] [.ptr (.b 0) 0 0,.ro (cS x)] (.tup [dkV x (tr T x.a) (tr T x.b),.v (.int .i64 (dkC x (tr T x.a) (tr T x.b)))]) ([.var [.loc (.b 1) 0 T.length,.v (.slice none 0 0)] false,.arr 1 (E cD T) false].map some):=by
 have sa:=hs _ (gG iA);have sb:=hs _ (gG iB);have gA:=iL iA;have gB:=iL iB;have a0:=iA.1;have a1:=iA.2;have b0:=iB.1;have b1:=iB.2;by_cases h1:x.kind=1
 ·have CT:=yR (tr T x.a) x.f0 x.f1 sa.2 sa.1;have hC:dkC x (tr T x.a) (tr T x.b)=bH x.f0 x.f1 (tr T x.a):=by simp[dkC,h1]
  have hL:dkL x (tr T x.a) (tr T x.b)=iJ x.f0 x.f1 (tr T x.a):=by simp[dkL,h1]
  have hV:dkV x (tr T x.a) (tr T x.b)=pJ x.f0 x.f1 (tr T x.a):=by unfold dkV pJ;rw[hC,hL]
  have hv2:pJ x.f0 x.f1 (tr T x.a)=.sl 1 (E cC (iJ x.f0 x.f1 (tr T x.a)))∨pJ x.f0 x.f1 (tr T x.a)=.v (.slice none 0 0):=by unfold pJ;split<;>simp
  rw[hV,hC];generalize bH x.f0 x.f1 (tr T x.a)=c at *
  rcases hv2 with hv2|hv2<;>rw[hv2] at CT⊢
  all_goals
   refine fn1 Cd.s_l15Make_k [.b 0,.b 1] [.var [.loc (.b 1) 0 T.length,.v (.slice none 0 0)] false,.arr 1 (E cD T) false] fun X=>?_;unfold Cd.bW
   repeat' first|simp -dsimp only[go_sem,h1,gA,gB,cS]|apply Br.mk<;>intro h<;>try simp -dsimp only[h]|refine aA.c (by first|exact CT) ?_|refine aC ?_|fail
   all_goals first|omega|exact⟨_,_,rfl,rfl⟩
 by_cases h2:x.kind=2
 ·have CT:=vN (tr T x.a) (tr T x.b) x.f0 x.f1 sa sb;have hC:dkC x (tr T x.a) (tr T x.b)=mgC x.f0 x.f1 (tr T x.a) (tr T x.b):=by simp[dkC,h2]
  have hL:dkL x (tr T x.a) (tr T x.b)=iJ x.f0 x.f1 (tr T x.a++tr T x.b):=by simp[dkL,h2]
  have hV:dkV x (tr T x.a) (tr T x.b)=mgV x.f0 x.f1 (tr T x.a) (tr T x.b):=by unfold dkV mgV;rw[hC,hL]
  have hv2:mgV x.f0 x.f1 (tr T x.a) (tr T x.b)=.sl 1 (E cC (iJ x.f0 x.f1 (tr T x.a++tr T x.b)))∨mgV x.f0 x.f1 (tr T x.a) (tr T x.b)=.v (.slice none 0 0):=by unfold mgV;split<;>simp
  rw[hV,hC];generalize mgC x.f0 x.f1 (tr T x.a) (tr T x.b)=c at *
  rcases hv2 with hv2|hv2<;>rw[hv2] at CT⊢
  all_goals
   refine fn1 Cd.s_l15Make_k [.b 0,.b 1] [.var [.loc (.b 1) 0 T.length,.v (.slice none 0 0)] false,.arr 1 (E cD T) false] fun X=>?_;unfold Cd.bW
   repeat' first|simp -dsimp only[go_sem,h2,gA,gB,cS]|apply Br.mk<;>intro h<;>try simp -dsimp only[h]|refine aA.c (by first|exact CT) ?_|refine aC ?_|fail
   all_goals first|omega|exact⟨_,_,rfl,rfl⟩
 by_cases h5:x.kind=5
 ·have CT:=sU (tr T x.a) x.f0 x.f1 x.text sa hz;have hC:dkC x (tr T x.a) (tr T x.b)=iU x.f0 x.f1 x.text (tr T x.a):=by simp[dkC,h5]
  have hL:dkL x (tr T x.a) (tr T x.b)=flt (iY x.f0 x.f1 x.text) (tr T x.a):=by simp[dkL,h5]
  have hV:dkV x (tr T x.a) (tr T x.b)=mJ x.f0 x.f1 x.text (tr T x.a):=by unfold dkV mJ;rw[hC,hL]
  have hv2:mJ x.f0 x.f1 x.text (tr T x.a)=.sl 1 (E cC (flt (iY x.f0 x.f1 x.text) (tr T x.a)))∨mJ x.f0 x.f1 x.text (tr T x.a)=.v (.slice none 0 0):=by unfold mJ;split<;>simp
  rw[hV,hC];generalize iU x.f0 x.f1 x.text (tr T x.a)=c at *
  rcases hv2 with hv2|hv2<;>rw[hv2] at CT⊢
  all_goals
   refine fn1 Cd.s_l15Make_k [.b 0,.b 1] [.var [.loc (.b 1) 0 T.length,.v (.slice none 0 0)] false,.arr 1 (E cD T) false] fun X=>?_;unfold Cd.bW
   repeat' first|simp -dsimp only[go_sem,h5,gA,gB,cS]|apply Br.mk<;>intro h<;>try simp -dsimp only[h]|refine aA.c (by first|exact CT) ?_|refine aC ?_|fail
   all_goals first|omega|exact⟨_,_,rfl,rfl⟩
 by_cases h6:x.kind=6
 ·have CT:=qN (tr T x.a) x.f0 x.f1 sa;have hC:dkC x (tr T x.a) (tr T x.b)=bH x.f0 x.f1 (tr T x.a):=by simp[dkC,h6]
  have hL:dkL x (tr T x.a) (tr T x.b)=sP x.f0 x.f1 (tr T x.a):=by simp[dkL,h6]
  have hV:dkV x (tr T x.a) (tr T x.b)=pQ x.f0 x.f1 (tr T x.a):=by unfold dkV pQ;rw[hC,hL]
  have hv2:pQ x.f0 x.f1 (tr T x.a)=.sl 1 (E cC (sP x.f0 x.f1 (tr T x.a)))∨pQ x.f0 x.f1 (tr T x.a)=.v (.slice none 0 0):=by unfold pQ;split<;>simp
  rw[hV,hC];generalize bH x.f0 x.f1 (tr T x.a)=c at *
  rcases hv2 with hv2|hv2<;>rw[hv2] at CT⊢
  all_goals
   refine fn1 Cd.s_l15Make_k [.b 0,.b 1] [.var [.loc (.b 1) 0 T.length,.v (.slice none 0 0)] false,.arr 1 (E cD T) false] fun X=>?_;unfold Cd.bW
   repeat' first|simp -dsimp only[go_sem,h6,gA,gB,cS]|apply Br.mk<;>intro h<;>try simp -dsimp only[h]|refine aA.c (by first|exact CT) ?_|refine aC ?_|fail
   all_goals first|omega|exact⟨_,_,rfl,rfl⟩
 have hC:dkC x (tr T x.a) (tr T x.b)=mtC x.f0 x.f1 (tr T x.a) (tr T x.b):=by simp[dkC,h1,h2,h5,h6]
 have e1:(x.kind==1)=false:=beq_eq_false_iff_ne.2 h1;have e2:(x.kind==2)=false:=beq_eq_false_iff_ne.2 h2;have e5:(x.kind==5)=false:=beq_eq_false_iff_ne.2 h5;have e6:(x.kind==6)=false:=beq_eq_false_iff_ne.2 h6;have CT:=vO (tr T x.a) (tr T x.b) x.f0 x.f1 sa sb;by_cases h0:mtC x.f0 x.f1 (tr T x.a) (tr T x.b)=0
 ·rw[show mtV x.f0 x.f1 (tr T x.a) (tr T x.b)=.sl 1 (E cD (mtL x.f0 x.f1 (tr T x.a) (tr T x.b))) by simp[mtV,h0],h0] at CT;have hl4:(mtL x.f0 x.f1 (tr T x.a) (tr T x.b)).length=4:=rfl;have m0:(E cD (mtL x.f0 x.f1 (tr T x.a) (tr T x.b))).getD 0 []=[.sl 1 (E cC (mat x.f0 x.f1 (tr T x.a) (tr T x.b) true))]:=rfl;have m2:(E cD (mtL x.f0 x.f1 (tr T x.a) (tr T x.b))).getD 2 []=[.sl 1 (E cC (mat x.f0 x.f1 (tr T x.a) (tr T x.b) false))]:=rfl;generalize mtL x.f0 x.f1 (tr T x.a) (tr T x.b)=ML at *
  by_cases h3:x.kind=3
  ·have e3:(x.kind==3)=true:=beq_iff_eq.2 h3;have hV:dkV x (tr T x.a) (tr T x.b)=.sl 1 (E cC (mat x.f0 x.f1 (tr T x.a) (tr T x.b) true)):=by unfold dkV;rw[hC,h0];simp[dkL,h1,h2,h5,h6,h3]
   rw[hV,hC,h0];refine fn1 Cd.s_l15Make_k [.b 0,.b 1] [.var [.loc (.b 1) 0 T.length,.v (.slice none 0 0)] false,.arr 1 (E cD T) false] fun X=>?_;unfold Cd.bW
   repeat' first|simp -dsimp only[go_sem,e1,e2,e5,e6,e3,gA,gB,m0,m2,hl4,cS]|apply Br.mk<;>intro h<;>try simp -dsimp only[h]|refine aA.c (by first|exact CT) ?_|refine aC ?_|fail
   all_goals first|omega|exact⟨_,_,rfl,rfl⟩
  ·have e3:(x.kind==3)=false:=beq_eq_false_iff_ne.2 h3;have hV:dkV x (tr T x.a) (tr T x.b)=.sl 1 (E cC (mat x.f0 x.f1 (tr T x.a) (tr T x.b) false)):=by unfold dkV;rw[hC,h0];simp[dkL,h1,h2,h5,h6,h3]
   rw[hV,hC,h0];refine fn1 Cd.s_l15Make_k [.b 0,.b 1] [.var [.loc (.b 1) 0 T.length,.v (.slice none 0 0)] false,.arr 1 (E cD T) false] fun X=>?_;unfold Cd.bW
   repeat' first|simp -dsimp only[go_sem,e1,e2,e5,e6,e3,gA,gB,m0,m2,hl4,cS]|apply Br.mk<;>intro h<;>try simp -dsimp only[h]|refine aA.c (by first|exact CT) ?_|refine aC ?_|fail
   all_goals first|omega|exact⟨_,_,rfl,rfl⟩
 ·have e0:(mtC x.f0 x.f1 (tr T x.a) (tr T x.b) != 0)=true:=by simp[h0]
  rw[show mtV x.f0 x.f1 (tr T x.a) (tr T x.b)=.v (.slice none 0 0) by simp[mtV,h0]] at CT;have hV:dkV x (tr T x.a) (tr T x.b)=.v (.slice none 0 0):=by unfold dkV;rw[hC,if_neg h0]
  rw[hV,hC];generalize mtC x.f0 x.f1 (tr T x.a) (tr T x.b)=c at *
  refine fn1 Cd.s_l15Make_k [.b 0,.b 1] [.var [.loc (.b 1) 0 T.length,.v (.slice none 0 0)] false,.arr 1 (E cD T) false] fun X=>?_;unfold Cd.bW
  repeat' first|simp -dsimp only[go_sem,e1,e2,e5,e6,e0,gA,gB,cS]|apply Br.mk<;>intro h<;>try simp -dsimp only[h]|refine aA.c (by first|exact CT) ?_|refine aC ?_|fail
  all_goals first|omega|exact⟨_,_,rfl,rfl⟩
attribute [local go_sem] Int.reduceBEq Int.reduceBNe cO cFd aG List.replicate_succ List.replicate_zero List.flatten_cons List.flatten_nil List.cons_append List.nil_append List.set_cons_zero List.set_cons_succ List.length_cons List.length_nil List.length_set List.mem_singleton List.mem_cons List.not_mem_nil or_false false_or Vs.Name.t.injEq Vs.Name.b.injEq List.getD_cons_zero List.getD_cons_succ in
theorem aEO (x:Stp) (hz:x.text.size≤1048576) (T:List (List (List Int))) (hs:∀d,d∈T→bE d) (hl:T.length≤1048576) (iA:0≤x.a∧x.a<(T.length:Int)) (iB:0≤x.b∧x.b<(T.length:Int)) (TS:List (List Tot)):Vs.Fn Tryz.prog F.bW [.var [.loc (.b 1) 0 T.length,.loc (.b 2) 0 TS.length] false,.arr 1 (E cD T) false,.arr 1 (E cTs TS) false] [.ptr (.b 0) 0 0,.ro (cS x)] (.tup [dkV x (tr T x.a) (tr T x.b),.v (.int .i64 (dkC x (tr T x.a) (tr T x.b)))]) ([.var [.loc (.b 1) 0 T.length,.loc (.b 2) 0 TS.length] false,.arr 1 (E cD T) false,.arr 1 (E cTs TS) false].map some):=by
 have sa:=hs _ (gG iA);have sb:=hs _ (gG iB);have gA:=iL iA;have gB:=iL iB;have a0:=iA.1;have a1:=iA.2;have b0:=iB.1;have b1:=iB.2;by_cases h1:x.kind=1
 ·have CT:=yR (tr T x.a) x.f0 x.f1 sa.2 sa.1;have hC:dkC x (tr T x.a) (tr T x.b)=bH x.f0 x.f1 (tr T x.a):=by simp[dkC,h1]
  have hL:dkL x (tr T x.a) (tr T x.b)=iJ x.f0 x.f1 (tr T x.a):=by simp[dkL,h1]
  have hV:dkV x (tr T x.a) (tr T x.b)=pJ x.f0 x.f1 (tr T x.a):=by unfold dkV pJ;rw[hC,hL]
  have hv2:pJ x.f0 x.f1 (tr T x.a)=.sl 1 (E cC (iJ x.f0 x.f1 (tr T x.a)))∨pJ x.f0 x.f1 (tr T x.a)=.v (.slice none 0 0):=by unfold pJ;split<;>simp
  rw[hV,hC];generalize bH x.f0 x.f1 (tr T x.a)=c at *
  rcases hv2 with hv2|hv2<;>rw[hv2] at CT⊢
  all_goals
   refine fn1 Cd.s_l15Make_k [.b 0,.b 1,.b 2] [.var [.loc (.b 1) 0 T.length,.loc (.b 2) 0 TS.length] false,.arr 1 (E cD T) false,.arr 1 (E cTs TS) false] fun X=>?_;unfold Cd.bW
   repeat' first|simp -dsimp only[go_sem,h1,gA,gB,cS]|apply Br.mk<;>intro h<;>try simp -dsimp only[h]|refine aA.c (by first|exact CT) ?_|refine aC ?_|fail
   all_goals first|omega|exact⟨_,_,rfl,rfl⟩
 by_cases h2:x.kind=2
 ·have CT:=vN (tr T x.a) (tr T x.b) x.f0 x.f1 sa sb;have hC:dkC x (tr T x.a) (tr T x.b)=mgC x.f0 x.f1 (tr T x.a) (tr T x.b):=by simp[dkC,h2]
  have hL:dkL x (tr T x.a) (tr T x.b)=iJ x.f0 x.f1 (tr T x.a++tr T x.b):=by simp[dkL,h2]
  have hV:dkV x (tr T x.a) (tr T x.b)=mgV x.f0 x.f1 (tr T x.a) (tr T x.b):=by unfold dkV mgV;rw[hC,hL]
  have hv2:mgV x.f0 x.f1 (tr T x.a) (tr T x.b)=.sl 1 (E cC (iJ x.f0 x.f1 (tr T x.a++tr T x.b)))∨mgV x.f0 x.f1 (tr T x.a) (tr T x.b)=.v (.slice none 0 0):=by unfold mgV;split<;>simp
  rw[hV,hC];generalize mgC x.f0 x.f1 (tr T x.a) (tr T x.b)=c at *
  rcases hv2 with hv2|hv2<;>rw[hv2] at CT⊢
  all_goals
   refine fn1 Cd.s_l15Make_k [.b 0,.b 1,.b 2] [.var [.loc (.b 1) 0 T.length,.loc (.b 2) 0 TS.length] false,.arr 1 (E cD T) false,.arr 1 (E cTs TS) false] fun X=>?_;unfold Cd.bW
   repeat' first|simp -dsimp only[go_sem,h2,gA,gB,cS]|apply Br.mk<;>intro h<;>try simp -dsimp only[h]|refine aA.c (by first|exact CT) ?_|refine aC ?_|fail
   all_goals first|omega|exact⟨_,_,rfl,rfl⟩
 by_cases h5:x.kind=5
 ·have CT:=sU (tr T x.a) x.f0 x.f1 x.text sa hz;have hC:dkC x (tr T x.a) (tr T x.b)=iU x.f0 x.f1 x.text (tr T x.a):=by simp[dkC,h5]
  have hL:dkL x (tr T x.a) (tr T x.b)=flt (iY x.f0 x.f1 x.text) (tr T x.a):=by simp[dkL,h5]
  have hV:dkV x (tr T x.a) (tr T x.b)=mJ x.f0 x.f1 x.text (tr T x.a):=by unfold dkV mJ;rw[hC,hL]
  have hv2:mJ x.f0 x.f1 x.text (tr T x.a)=.sl 1 (E cC (flt (iY x.f0 x.f1 x.text) (tr T x.a)))∨mJ x.f0 x.f1 x.text (tr T x.a)=.v (.slice none 0 0):=by unfold mJ;split<;>simp
  rw[hV,hC];generalize iU x.f0 x.f1 x.text (tr T x.a)=c at *
  rcases hv2 with hv2|hv2<;>rw[hv2] at CT⊢
  all_goals
   refine fn1 Cd.s_l15Make_k [.b 0,.b 1,.b 2] [.var [.loc (.b 1) 0 T.length,.loc (.b 2) 0 TS.length] false,.arr 1 (E cD T) false,.arr 1 (E cTs TS) false] fun X=>?_;unfold Cd.bW
   repeat' first|simp -dsimp only[go_sem,h5,gA,gB,cS]|apply Br.mk<;>intro h<;>try simp -dsimp only[h]|refine aA.c (by first|exact CT) ?_|refine aC ?_|fail
   all_goals first|omega|exact⟨_,_,rfl,rfl⟩
 by_cases h6:x.kind=6
 ·have CT:=qN (tr T x.a) x.f0 x.f1 sa;have hC:dkC x (tr T x.a) (tr T x.b)=bH x.f0 x.f1 (tr T x.a):=by simp[dkC,h6]
  have hL:dkL x (tr T x.a) (tr T x.b)=sP x.f0 x.f1 (tr T x.a):=by simp[dkL,h6]
  have hV:dkV x (tr T x.a) (tr T x.b)=pQ x.f0 x.f1 (tr T x.a):=by unfold dkV pQ;rw[hC,hL]
  have hv2:pQ x.f0 x.f1 (tr T x.a)=.sl 1 (E cC (sP x.f0 x.f1 (tr T x.a)))∨pQ x.f0 x.f1 (tr T x.a)=.v (.slice none 0 0):=by unfold pQ;split<;>simp
  rw[hV,hC];generalize bH x.f0 x.f1 (tr T x.a)=c at *
  rcases hv2 with hv2|hv2<;>rw[hv2] at CT⊢
  all_goals
   refine fn1 Cd.s_l15Make_k [.b 0,.b 1,.b 2] [.var [.loc (.b 1) 0 T.length,.loc (.b 2) 0 TS.length] false,.arr 1 (E cD T) false,.arr 1 (E cTs TS) false] fun X=>?_;unfold Cd.bW
   repeat' first|simp -dsimp only[go_sem,h6,gA,gB,cS]|apply Br.mk<;>intro h<;>try simp -dsimp only[h]|refine aA.c (by first|exact CT) ?_|refine aC ?_|fail
   all_goals first|omega|exact⟨_,_,rfl,rfl⟩
 have hC:dkC x (tr T x.a) (tr T x.b)=mtC x.f0 x.f1 (tr T x.a) (tr T x.b):=by simp[dkC,h1,h2,h5,h6]
 have e1:(x.kind==1)=false:=beq_eq_false_iff_ne.2 h1;have e2:(x.kind==2)=false:=beq_eq_false_iff_ne.2 h2;have e5:(x.kind==5)=false:=beq_eq_false_iff_ne.2 h5;have e6:(x.kind==6)=false:=beq_eq_false_iff_ne.2 h6;have CT:=vO (tr T x.a) (tr T x.b) x.f0 x.f1 sa sb;by_cases h0:mtC x.f0 x.f1 (tr T x.a) (tr T x.b)=0
 ·rw[show mtV x.f0 x.f1 (tr T x.a) (tr T x.b)=.sl 1 (E cD (mtL x.f0 x.f1 (tr T x.a) (tr T x.b))) by simp[mtV,h0],h0] at CT;have hl4:(mtL x.f0 x.f1 (tr T x.a) (tr T x.b)).length=4:=rfl;have m0:(E cD (mtL x.f0 x.f1 (tr T x.a) (tr T x.b))).getD 0 []=[.sl 1 (E cC (mat x.f0 x.f1 (tr T x.a) (tr T x.b) true))]:=rfl;have m2:(E cD (mtL x.f0 x.f1 (tr T x.a) (tr T x.b))).getD 2 []=[.sl 1 (E cC (mat x.f0 x.f1 (tr T x.a) (tr T x.b) false))]:=rfl;generalize mtL x.f0 x.f1 (tr T x.a) (tr T x.b)=ML at *
  by_cases h3:x.kind=3
  ·have e3:(x.kind==3)=true:=beq_iff_eq.2 h3;have hV:dkV x (tr T x.a) (tr T x.b)=.sl 1 (E cC (mat x.f0 x.f1 (tr T x.a) (tr T x.b) true)):=by unfold dkV;rw[hC,h0];simp[dkL,h1,h2,h5,h6,h3]
   rw[hV,hC,h0];refine fn1 Cd.s_l15Make_k [.b 0,.b 1,.b 2] [.var [.loc (.b 1) 0 T.length,.loc (.b 2) 0 TS.length] false,.arr 1 (E cD T) false,.arr 1 (E cTs TS) false] fun X=>?_;unfold Cd.bW
   repeat' first|simp -dsimp only[go_sem,e1,e2,e5,e6,e3,gA,gB,m0,m2,hl4,cS]|apply Br.mk<;>intro h<;>try simp -dsimp only[h]|refine aA.c (by first|exact CT) ?_|refine aC ?_|fail
   all_goals first|omega|exact⟨_,_,rfl,rfl⟩
  ·have e3:(x.kind==3)=false:=beq_eq_false_iff_ne.2 h3;have hV:dkV x (tr T x.a) (tr T x.b)=.sl 1 (E cC (mat x.f0 x.f1 (tr T x.a) (tr T x.b) false)):=by unfold dkV;rw[hC,h0];simp[dkL,h1,h2,h5,h6,h3]
   rw[hV,hC,h0];refine fn1 Cd.s_l15Make_k [.b 0,.b 1,.b 2] [.var [.loc (.b 1) 0 T.length,.loc (.b 2) 0 TS.length] false,.arr 1 (E cD T) false,.arr 1 (E cTs TS) false] fun X=>?_;unfold Cd.bW
   repeat' first|simp -dsimp only[go_sem,e1,e2,e5,e6,e3,gA,gB,m0,m2,hl4,cS]|apply Br.mk<;>intro h<;>try simp -dsimp only[h]|refine aA.c (by first|exact CT) ?_|refine aC ?_|fail
   all_goals first|omega|exact⟨_,_,rfl,rfl⟩
 ·have e0:(mtC x.f0 x.f1 (tr T x.a) (tr T x.b) != 0)=true:=by simp[h0]
  rw[show mtV x.f0 x.f1 (tr T x.a) (tr T x.b)=.v (.slice none 0 0) by simp[mtV,h0]] at CT;have hV:dkV x (tr T x.a) (tr T x.b)=.v (.slice none 0 0):=by unfold dkV;rw[hC,if_neg h0]
  rw[hV,hC];generalize mtC x.f0 x.f1 (tr T x.a) (tr T x.b)=c at *
  refine fn1 Cd.s_l15Make_k [.b 0,.b 1,.b 2] [.var [.loc (.b 1) 0 T.length,.loc (.b 2) 0 TS.length] false,.arr 1 (E cD T) false,.arr 1 (E cTs TS) false] fun X=>?_;unfold Cd.bW
  repeat' first|simp -dsimp only[go_sem,e1,e2,e5,e6,e0,gA,gB,cS]|apply Br.mk<;>intro h<;>try simp -dsimp only[h]|refine aA.c (by first|exact CT) ?_|refine aC ?_|fail
  all_goals first|omega|exact⟨_,_,rfl,rfl⟩
end
end Go.Proofs.YtonkjfiffcfaoaaGreat
