/- The deck that arises by a step: the reference. -/
import Derived.Test.YthbnjmgjhonfbaaGreatTwVm
import Derived.Test.YthbnjmgjhonfbaaGreatTuO
import Derived.Test.YthbnjmgjhonfbaaGreatTwVf
import Derived.Test.YthbnjmgjhonfbaaGreatVtR
import Derived.Test.YthbnjmgjhonfbaaGreatTuS
set_option linter.all false
set_option maxHeartbeats 8000000
namespace Go.Proofs.YthbnjmgjhonfbaaGreat
open Go.Vs
section
variable [Vs.Envs]
attribute [local irreducible] Vs.Fn bG mgC gF mtC bQ sZ mat zL cZ aW dB dC l03 chB rk cd3 chI stp aZ
def stC (x:Stp) (o:Off):Int:=if x.kind=7 then(if 20≤o.totals.length then 5 else if iX x.f0 x.f1 x.s0 x.s1 (tr o.trays x.a) then 0 else 8) else dkC x (tr o.trays x.a) (tr o.trays x.b)
def stO (x:Stp) (o:Off):Off:=if x.kind=7 then⟨o.trays,o.totals++[kU x.f0 x.f1 x.s0 x.s1 (tr o.trays x.a)]⟩ else⟨o.trays.set x.to.toNat (dkL x (tr o.trays x.a) (tr o.trays x.b)),o.totals⟩
def dsC (x:Stp) (o:Off):Int:=if dP x (wO o.trays) then stC x o else 2
def run:Off→List Stp→Off×Nat
 |o,[]=>(o,0)
 |o,x::r=>if dsC x o=0 then((run (stO x o) r).1,(run (stO x o) r).2+1) else(o,0)
def okD (w:Nat) (d:List (List Int)):Prop:=aS d=true∧∀c,c∈d→c.length=w
def okO (w:Nat) (o:Off):Prop:=(1≤w∧w≤20)∧o.trays.length=6∧(∀d,d∈o.trays→okD w d)∧o.totals.length≤20∧∀t,t∈o.totals→aFA t
theorem qK {w:Nat}{d:List (List Int)} (hw:w≤20) (h:okD w d):bA d:=by
 have h4:=iE h.1;exact⟨by omega,fun c hc=>by rw[h.2 c hc];omega⟩
theorem jR {w:Nat}{o:Off} (h:okO w o):yS o:=by
 obtain⟨hw,h6,hd,ht,hs⟩:=h;exact⟨⟨by omega,fun d hdd=>qK hw.2 (hd d hdd)⟩,⟨by omega,hs⟩⟩
theorem aEk {w:Nat}:∀T:List (List (List Int)),(∀d,d∈T→okD w d)→wO T=w∨(wO T=20∧∀d,d∈T→d.length=0)
 | [],_=>.inr ⟨rfl,fun d hd=>absurd hd (by simp)⟩
 | d::r,h=>by
  unfold wO;by_cases h0:d.length=0
  ·rw[if_pos h0];rcases aEk r fun e he=>h e (List.mem_cons_of_mem _ he) with h1|⟨h1,h2⟩
   ·exact .inl h1
   ·refine .inr ⟨h1,fun e he=>?_⟩;rcases List.mem_cons.1 he with rfl|he
    ·exact h0
    ·exact h2 e he
  ·rw[if_neg h0];refine .inl ((h d (List.mem_cons_self ..)).2 _ ?_);rw[show d.getD 0 []=d[0]'(by omega) by simp[List.getD,(by omega:0<d.length)]];exact List.getElem_mem _
theorem aKA {w:Nat}{d:List (List Int)} (h:okD w d):aT d=20∧d.length=0∨aT d=w∧d.length≠0:=by
 unfold aT;by_cases h0:d.length=0
 ·rw[if_pos h0];exact .inl ⟨rfl,h0⟩
 ·rw[if_neg h0,h.2 (d.getD 0 []) (by rw[show d.getD 0 []=d[0]'(by omega) by simp[List.getD,(by omega:0<d.length)]];exact List.getElem_mem _)];exact .inr ⟨rfl,h0⟩
theorem rX {a b v w:Int} (h:v≤w) (hf:dJ a b v=true):dJ a b w=true:=by
 simp only[dJ,Bool.and_eq_true,decide_eq_true_eq] at hf⊢;omega
theorem yY {a b v w:Int} (h:v≤w) (hf:rF a b v=true):rF a b w=true:=by
 unfold rF at hf⊢;rw[Bool.and_eq_true] at hf⊢;exact⟨rX h hf.1,hf.2⟩
theorem pR {w:Nat}{o:Off} (h:okO w o) {d:List (List Int)} (hd:d∈o.trays):(wO o.trays:Int)≤aT d:=by
 rcases aKA (h.2.2.1 d hd) with⟨h1,_⟩|⟨h1,h2⟩
 ·rcases aEk o.trays h.2.2.1 with h3|⟨h3,_⟩
  ·rw[h1,h3];have:=h.1.2;omega
  ·rw[h1,h3];omega
 ·rcases aEk o.trays h.2.2.1 with h3|⟨h3,h4⟩
  ·rw[h1,h3];omega
  ·exact absurd (h4 d hd) h2
theorem wO_in {w:Nat}{o:Off} (h:okO w o):inB (wO o.trays:Int) 1 20=true:=by
 have:=h.1;rcases aEk o.trays h.2.2.1 with h3|⟨h3,_⟩<;>rw[h3]<;>simp[inB]<;>omega
structure aLB (x:Stp) (o:Off):Prop where
 k:1≤x.kind∧x.kind≤7
 a:0≤x.a∧x.a<(o.trays.length:Int)
 b:0≤x.b∧x.b<(o.trays.length:Int)
 to:0≤x.to∧x.to<(o.trays.length:Int)
 f:dJ x.f0 x.f1 (wO o.trays)=true
 n:x.kind=7→rF x.s0 x.s1 (wO o.trays)=true
theorem wE {w:Nat}{o:Off} (h:okO w o) {x:Stp} (hx:dP x (wO o.trays)=true):aLB x o:=by
 unfold dP at hx;simp only[Bool.and_eq_true] at hx;obtain⟨hk,ha,hb,ht,hf,_,hr⟩:=hx;simp only[inB,Bool.and_eq_true,decide_eq_true_eq] at hk ha hb ht;have h6:=h.2.1;refine⟨hk,⟨by omega,by omega⟩,⟨by omega,by omega⟩,⟨by omega,by omega⟩,hf,fun h7=>?_⟩;rw[if_pos (by simp[h7])] at hr;simp only[Bool.and_eq_true] at hr;exact hr.2.1
theorem aAR {w:Nat}{a b m:List (List Int)} (ha:okD w a) (hb:okD w b) (hm:∀c,c∈m→c∈a∨c∈b) (hl:m.length≤40):okD w m:=by
 have hw:∀c,c∈m→c.length=w:=fun c hc=>(hm c hc).elim (ha.2 c) (hb.2 c)
 have hc1:∀c,c∈m→gM c=true:=fun c hc=>by
  have h1:=ha.1;have h2:=hb.1;simp only[aS,Bool.and_eq_true,List.all_eq_true,decide_eq_true_eq] at h1 h2;rcases hm c hc with h|h
  ·exact(h1.1 c h).1
  ·exact(h2.1 c h).1
 refine⟨?_,hw⟩;simp only[aS,Bool.and_eq_true,List.all_eq_true,decide_eq_true_eq];refine⟨fun c hc=>⟨hc1 c hc,?_⟩,hl⟩;have h0:0<m.length:=List.length_pos_of_mem hc;have hm0:m.getD 0 []∈m:=by rw[show m.getD 0 []=m[0] by simp[List.getD,h0]];exact List.getElem_mem _
 rw[hw c hc,hw _ hm0]
theorem aJj {fr to:Int}{l:List (List Int)}:∀c,c∈sZ fr to l→c∈l:=by
 intro c hc;unfold sZ at hc;obtain⟨i,hi,rfl⟩:=List.mem_map.1 hc;exact mU (aAU i hi)
theorem aJk (fr to:Int) (l:List (List Int)):(sZ fr to l).length≤l.length:=by
 unfold sZ;rw[List.length_map];exact jX fr to l l.length
theorem aGT {q:List Int→Bool}{l:List (List Int)}:∀c,c∈flt q l→c∈l:=fun c hc=>(List.mem_filter.1 hc).1
theorem aIW {fr to:Int}{l o:List (List Int)}{e:Bool}:∀c,c∈mat fr to l o e→c∈l:=by unfold mat;exact aGT
theorem aLw (fr to:Int) (l o:List (List Int)) (e:Bool):(mat fr to l o e).length≤l.length:=by unfold mat;exact vN _ _
theorem aKF {fr to:Int}{a b:List (List Int)} (h:mgC fr to a b=0):a.length+b.length≤40:=by
 unfold mgC at h;split at h
 ·split at h
  ·cases h
  ·split at h
   ·split at h
    ·cases h
    ·omega
   ·cases h
 ·contradiction
theorem dk_ok {w:Nat}{x:Stp}{a b:List (List Int)} (ha:okD w a) (hb:okD w b) (fa:dJ x.f0 x.f1 (aT a)=true) (fb:dJ x.f0 x.f1 (aT b)=true) (hc:dkC x a b=0):okD w (dkL x a b):=by
 have oa:=dW ha.1 fa;have ob:=dW hb.1 fb;have la:=iE ha.1;have lb:=iE hb.1;unfold dkC at hc;unfold dkL;by_cases h1:x.kind=1
 ·rw[if_pos h1] at hc⊢;exact aAR ha hb (fun c h=>.inl (zQ oa la c h)) (by rw[wG];exact la)
 rw[if_neg h1] at hc⊢;by_cases h2:x.kind=2
 ·rw[if_pos h2] at hc⊢;have hl:=aKF hc;have hab:(a++b).length≤40:=by rw[List.length_append];exact hl
  refine aAR ha hb (fun c h=>?_) (by rw[wG];exact hab);exact List.mem_append.1 (zQ (fun c h=>(List.mem_append.1 h).elim (oa c) (ob c)) hab c h)
 rw[if_neg h2] at hc⊢;by_cases h5:x.kind=5
 ·rw[if_pos h5];exact aAR ha hb (fun c h=>.inl (aGT c h)) (Nat.le_trans (vN _ _) la)
 rw[if_neg h5];by_cases h6:x.kind=6
 ·rw[if_pos h6];exact aAR ha hb (fun c h=>.inl (aJj c h)) (Nat.le_trans (aJk _ _ _) la)
 rw[if_neg h6];split
 ·exact aAR ha hb (fun c h=>.inl (aIW c h)) (Nat.le_trans (aLw _ _ _ _ _) la)
 ·exact aAR ha hb (fun c h=>.inl (aIW c h)) (Nat.le_trans (aLw _ _ _ _ _) la)
theorem aFv {fr to sf st:Int}{l:List (List Int)}{w:Nat} (hw:w≤20) (h:okD w l):aFA (kU fr to sf st l):=by
 have h4:=iE h.1;have hg:=aCj fr to l;refine⟨by unfold kU;rw[List.length_map];omega,fun t ht=>?_⟩;unfold kU at ht;obtain⟨g,hgm,rfl⟩:=List.mem_map.1 ht;obtain⟨g0,_,gm⟩:=aE6 hgm;have hc:g.getD 0 []∈l:=gm _ (by rw[show g.getD 0 []=g[0] by simp[List.getD,g0]];exact List.getElem_mem _);show(txt (fH fr to (g.getD 0 []))).size≤1048576
 rw[aBR];unfold fH;rw[List.length_drop,List.length_take,h.2 _ hc];omega
theorem st_ok {w:Nat}{o:Off}{x:Stp} (h:okO w o) (hx:aLB x o) (hc:stC x o=0):okO w (stO x o):=by
 have h6:=h.2.1;have ma:=gN hx.a;have mb:=gN hx.b;unfold stC at hc;unfold stO;by_cases h7:x.kind=7
 ·rw[if_pos h7] at hc⊢;refine⟨h.1,h6,h.2.2.1,?_,fun t ht=>?_⟩
  ·rw[List.length_append,List.length_singleton];split at hc
   ·cases hc
   ·omega
  ·rcases List.mem_append.1 ht with ht|ht
   ·exact h.2.2.2.2 t ht
   ·rw[List.mem_singleton.1 ht];exact aFv h.1.2 (h.2.2.1 _ ma)
 ·rw[if_neg h7] at hc⊢;refine⟨h.1,by simpa using h6,fun d hd=>?_,h.2.2.2.1,h.2.2.2.2⟩;rcases List.mem_or_eq_of_mem_set hd with hd|rfl
  ·exact h.2.2.1 d hd
  ·exact dk_ok (h.2.2.1 _ ma) (h.2.2.1 _ mb) (rX (pR h ma) hx.f) (rX (pR h mb) hx.f) hc
theorem aDr {w:Nat}{o:Off}{x:Stp} (h:okO w o) (hc:dsC x o=0):okO w (stO x o):=by
 unfold dsC at hc;split at hc
 ·rename_i hx;exact st_ok h (wE h hx) hc
 ·cases hc
theorem aFD {w:Nat}:∀(fl:List Stp) (o:Off),okO w o→okO w (run o fl).1∧(run o fl).2≤fl.length
 | [],o,h=>⟨h,Nat.le_refl _⟩
 | x::r,o,h=>by
  unfold run;by_cases hc:dsC x o=0
  ·rw[if_pos hc];obtain⟨h1,h2⟩:=aFD r (stO x o) (aDr h hc);exact⟨h1,Nat.succ_le_succ h2⟩
  ·rw[if_neg hc];exact⟨h,Nat.zero_le _⟩
def aCL (o:Off) (fl:List Stp) (i:Nat) (o':Off):Prop:=run o fl=((run o' (fl.drop i)).1,(run o' (fl.drop i)).2+i)
theorem aC2 (o:Off) (fl:List Stp):aCL o fl 0 o:=rfl
theorem aAO {o o':Off}{fl:List Stp}{i:Nat} (hi:i<fl.length) (h:aCL o fl i o') (hc:dsC fl[i] o'=0):aCL o fl (i+1) (stO fl[i] o'):=by
 unfold aCL at h⊢;rw[List.drop_eq_getElem_cons hi,run,if_pos hc] at h;rw[h];simp only[Prod.mk.injEq,true_and];omega
theorem tV {o o':Off}{fl:List Stp}{i:Nat} (hi:i<fl.length) (h:aCL o fl i o') (hc:dsC fl[i] o'≠0):run o fl=(o',i):=by
 unfold aCL at h;rw[List.drop_eq_getElem_cons hi,run,if_neg hc] at h;rw[h,Nat.zero_add]
theorem aBX {o o':Off}{fl:List Stp} (h:aCL o fl fl.length o'):run o fl=(o',fl.length):=by
 unfold aCL at h;rw[List.drop_length,run] at h;rw[h,Nat.zero_add]
end
section
variable [Vs.Envs]
attribute [local irreducible] Vs.Fn bG mgC gF mtC bQ sZ mat zL dkC dkL iX kU dP wO cZ aW dB dC l03 chB rk cd3 chI stp aZ
def noO:AV:=.agg [.v (.slice none 0 0),.v (.slice none 0 0)]
def dsV (x:Stp) (o:Off):AV:=if dsC x o=0 then .agg (cO (stO x o)) else noO
theorem aGj (m:List (List (List Int))) (i:Nat) (d:List (List Int)):(E cD m).set i [.sl 1 (E cC d)]=E cD (m.set i d):=by simp[E,List.map_set,cD]
theorem aJ3 (m:List (List Tot)) (t:List Tot):E cTs m++[[.sl 2 (E cT t)]]=E cTs (m++[t]):=by rw[aY];rfl
theorem aBu {fr to sf st:Int}{l:List (List Int)} (h:iX fr to sf st l=true):nJ fr to sf st l=.sl 2 (E cT (kU fr to sf st l)):=by unfold nJ;rw[if_pos h];rfl
theorem aBv {fr to sf st:Int}{l:List (List Int)} (h:iX fr to sf st l=false):nJ fr to sf st l=.v (.slice none 0 0):=by unfold nJ;rw[h];rfl
theorem aF4 {x:Stp}{a b:List (List Int)} (h:dkC x a b=0):dkV x a b=.sl 1 (E cC (dkL x a b)):=by unfold dkV;rw[if_pos h]
theorem aF5 {x:Stp}{a b:List (List Int)} (h:dkC x a b≠0):dkV x a b=.v (.slice none 0 0):=by unfold dkV;rw[if_neg h]
theorem ds_dk {x:Stp}{o:Off} (hv:dP x (wO o.trays)=true) (h7:x.kind≠7):dsC x o=dkC x (tr o.trays x.a) (tr o.trays x.b):=by unfold dsC stC;rw[if_pos hv,if_neg h7]
theorem aLn {x:Stp}{o:Off} (h7:x.kind≠7):stO x o=⟨o.trays.set x.to.toNat (dkL x (tr o.trays x.a) (tr o.trays x.b)),o.totals⟩:=by unfold stO;rw[if_neg h7]
theorem aMd {x:Stp}{o:Off} (hv:dP x (wO o.trays)=true) (h7:x.kind=7):dsC x o=if 20≤o.totals.length then 5 else if iX x.f0 x.f1 x.s0 x.s1 (tr o.trays x.a) then 0 else 8:=by unfold dsC stC;rw[if_pos hv,if_pos h7]
theorem aIe {x:Stp}{o:Off} (h7:x.kind=7):stO x o=⟨o.trays,o.totals++[kU x.f0 x.f1 x.s0 x.s1 (tr o.trays x.a)]⟩:=by unfold stO;rw[if_pos h7]
attribute [local go_sem] Int.reduceBEq Int.reduceBNe cC cFd aH List.replicate_succ List.replicate_zero List.flatten_cons List.flatten_nil List.cons_append List.nil_append List.set_cons_zero List.set_cons_succ List.length_cons List.length_nil List.length_set List.mem_singleton List.mem_cons List.not_mem_nil or_false false_or Vs.Name.t.injEq List.getD_cons_zero List.getD_cons_succ in
theorem aMe (x:Stp) (hz:x.text.size≤1048576) (o:Off) (w:Nat) (ho:okO w o):Fz F.xC [.agg (cO o),.agg (cS x)] (.tup [dsV x o,.v (.int .i64 (dsC x o))]):=by
 have hso:=jR ho;have OC:=aCM o hso;have NO:=aHy o hso;have VS:=wZ x (wO o.trays:Int) hz;rw[wO_in ho,Bool.true_and] at VS;have hd6:=ho.2.1;have ht20:=ho.2.2.2.1;cases hv:dP x (wO o.trays)
 ·rw[hv] at VS;rw[show dsC x o=2 by unfold dsC;rw[hv];rfl,show dsV x o=noO by unfold dsV dsC;rw[hv];rfl];refine fn0 Cd.i_doStep_k fun X=>?_
  repeat' first|simp -dsimp only[go_sem,noO,cO,cS]|apply Br.mk<;>intro h<;>try simp -dsimp only[h]|refine aA.c (by first|exact VS|exact OC) ?_|refine aC ?_|fail
  all_goals first|omega|exact⟨_,_,rfl,rfl⟩
 rw[hv] at VS;have hx:=wE ho hv;have ma:=gN hx.a;have mb:=gN hx.b;have ga:=iO hx.a;have gb:=iO hx.b;have a0:=hx.a.1;have a1:=hx.a.2;have gt:=iO hx.to;have t0:=hx.to.1;have t1:=hx.to.2;have hla:(E cD o.trays).length=o.trays.length:=aH _;have hlt:(E cTs o.totals).length=o.totals.length:=aH _;have hk1:(E cD o.trays).take o.trays.length=E cD o.trays:=List.take_of_length_le (by omega);have hk2:(E cTs o.totals).take o.totals.length=E cTs o.totals:=List.take_of_length_le (by omega);by_cases h7:x.kind=7
 ·have e7:(x.kind==7)=true:=beq_iff_eq.2 h7;rw[show dsV x o=if dsC x o=0 then .agg (cO (stO x o)) else noO from rfl,aMd hv h7,aIe h7];by_cases h20:20≤o.totals.length
  ·have e20:((o.totals.length:Int)==20)=true:=beq_iff_eq.2 (by omega);rw[if_pos h20];rw[if_neg (by decide)];refine fn0 Cd.i_doStep_k fun X=>?_
   repeat' first|simp -dsimp only[go_sem,e7,e20,noO,cO,cS]|apply Br.mk<;>intro h<;>try simp -dsimp only[h]|refine aA.own (by first|exact NO) rfl ?_|refine aA.c (by first|exact VS|exact OC) ?_|refine aC ?_|fail
   all_goals first|omega|exact⟨_,_,rfl,rfl⟩
  ·have e20:((o.totals.length:Int)==20)=false:=beq_eq_false_iff_ne.2 (by omega);rw[if_neg h20];have da:=ho.2.2.1 _ ma;have TO:=aEl (tr o.trays x.a) x.f0 x.f1 x.s0 x.s1 (dW da.1 (rX (pR ho ma) hx.f)) (aDS da.1 (yY (pR ho ma) (hx.n h7))) (qK ho.1.2 da).1;cases hb:iX x.f0 x.f1 x.s0 x.s1 (tr o.trays x.a)
   ·rw[aBv hb,hb] at TO;simp only[Bool.false_eq_true,if_false] at TO;rw[if_neg (by decide),if_neg (by decide)];refine fn0 Cd.i_doStep_k fun X=>?_
    repeat' first|simp -dsimp only[go_sem,e7,e20,noO,ga,cO,cS]|apply Br.mk<;>intro h<;>try simp -dsimp only[h]|refine aA.own (by first|exact NO) rfl ?_|refine aA.c (by first|exact VS|exact OC|exact TO) ?_|refine aC ?_|fail
    all_goals first|omega|exact⟨_,_,rfl,rfl⟩
   ·rw[aBu hb,hb] at TO;simp only[if_true] at TO;rw[if_pos rfl,if_pos rfl];have hsn:=aJ3 o.totals (kU x.f0 x.f1 x.s0 x.s1 (tr o.trays x.a));have hk3:(E cTs (o.totals++[kU x.f0 x.f1 x.s0 x.s1 (tr o.trays x.a)])).take (o.totals.length+1)=E cTs (o.totals++[kU x.f0 x.f1 x.s0 x.s1 (tr o.trays x.a)]):=List.take_of_length_le (by rw[aH,List.length_append];exact Nat.le_refl _);refine fn0 Cd.i_doStep_k fun X=>?_
    repeat' first|simp -dsimp only[go_sem,e7,e20,ga,hla,hlt,hsn,hk1,hk2,hk3,cO,cS]|apply Br.mk<;>intro h<;>try simp -dsimp only[h]|refine aA.own (by first|exact NO) rfl ?_|refine aA.c (by first|exact VS|exact OC|exact TO) ?_|refine aC ?_|fail
    all_goals first|omega|exact⟨_,_,rfl,rfl⟩
 ·have e7:(x.kind==7)=false:=beq_eq_false_iff_ne.2 h7;rw[show dsV x o=if dsC x o=0 then .agg (cO (stO x o)) else noO from rfl,ds_dk hv h7,aLn h7];have DK:=aE5 x hz o.trays hso.1.2 hso.1.1 hx.a hx.b o.totals;by_cases h0:dkC x (tr o.trays x.a) (tr o.trays x.b)=0
  ·rw[aF4 h0] at DK;rw[h0] at DK⊢;rw[if_pos rfl];generalize dkL x (tr o.trays x.a) (tr o.trays x.b)=D at *
   have hst:=aGj o.trays x.to.toNat D;have hk3:(E cD (o.trays.set x.to.toNat D)).take o.trays.length=E cD (o.trays.set x.to.toNat D):=List.take_of_length_le (by rw[aH,List.length_set];exact Nat.le_refl _);refine fn0 Cd.i_doStep_k fun X=>?_
   repeat' first|simp -dsimp only[go_sem,e7,gt,hla,hlt,hst,hk1,hk2,hk3,cO,cS]|apply Br.mk<;>intro h<;>try simp -dsimp only[h]|refine aA.own (by first|exact NO) rfl ?_|refine aA.c (by first|exact VS|exact OC|exact DK) ?_|refine aC ?_|fail
   all_goals first|omega|exact⟨_,_,rfl,rfl⟩
  ·rw[aF5 h0] at DK;rw[if_neg h0];have e0:(dkC x (tr o.trays x.a) (tr o.trays x.b) != 0)=true:=by simp[h0]
   generalize dkC x (tr o.trays x.a) (tr o.trays x.b)=c at *
   refine fn0 Cd.i_doStep_k fun X=>?_
   repeat' first|simp -dsimp only[go_sem,e7,e0,noO,cO,cS]|apply Br.mk<;>intro h<;>try simp -dsimp only[h]|refine aA.own (by first|exact NO) rfl ?_|refine aA.c (by first|exact VS|exact OC|exact DK) ?_|refine aC ?_|fail
   all_goals first|omega|exact⟨_,_,rfl,rfl⟩
end
section
variable [Vs.Envs]
attribute [local irreducible] Vs.Fn bG mgC gF mtC bQ flt iI sZ mat cZ aW dB dC l03 chB rk cd3 chI stp aZ
attribute [local go_sem] Int.reduceBEq Int.reduceBNe cO cFd aH List.replicate_succ List.replicate_zero List.flatten_cons List.flatten_nil List.cons_append List.nil_append List.set_cons_zero List.set_cons_succ List.length_cons List.length_nil List.length_set List.mem_singleton List.mem_cons List.not_mem_nil or_false false_or Vs.Name.t.injEq Vs.Name.b.injEq List.getD_cons_zero List.getD_cons_succ in
theorem aEU (x:Stp) (hz:x.text.size≤1048576) (T:List (List (List Int))) (hs:∀d,d∈T→bA d) (hl:T.length≤1048576) (iA:0≤x.a∧x.a<(T.length:Int)) (iB:0≤x.b∧x.b<(T.length:Int)):Vs.Fn Tryz.prog F.bY [.var [.loc (.b 1) 0 T.length,.v (.slice none 0 0)] false,.arr 1 (E cD T) false] [.ptr (.b 0) 0 0,.ro (cS x)] (.tup [dkV x (tr T x.a) (tr T x.b),.v (.int .i64 (dkC x (tr T x.a) (tr T x.b)))]) ([.var [.loc (.b 1) 0 T.length,.v (.slice none 0 0)] false,.arr 1 (E cD T) false].map some):=by
 have sa:=hs _ (gN iA);have sb:=hs _ (gN iB);have gA:=iO iA;have gB:=iO iB;have a0:=iA.1;have a1:=iA.2;have b0:=iB.1;have b1:=iB.2;by_cases h1:x.kind=1
 ·have CT:=sS (tr T x.a) x.f0 x.f1 sa.2 sa.1;have hC:dkC x (tr T x.a) (tr T x.b)=bG x.f0 x.f1 (tr T x.a):=by simp[dkC,h1]
  have hL:dkL x (tr T x.a) (tr T x.b)=bQ x.f0 x.f1 (tr T x.a):=by simp[dkL,h1]
  have hV:dkV x (tr T x.a) (tr T x.b)=mJ x.f0 x.f1 (tr T x.a):=by unfold dkV mJ;rw[hC,hL]
  have hv2:mJ x.f0 x.f1 (tr T x.a)=.sl 1 (E cC (bQ x.f0 x.f1 (tr T x.a)))∨mJ x.f0 x.f1 (tr T x.a)=.v (.slice none 0 0):=by unfold mJ;split<;>simp
  rw[hV,hC];generalize bG x.f0 x.f1 (tr T x.a)=c at *
  rcases hv2 with hv2|hv2<;>rw[hv2] at CT⊢
  all_goals
   refine fn1 Cd.s_l15Make_k [.b 0,.b 1] [.var [.loc (.b 1) 0 T.length,.v (.slice none 0 0)] false,.arr 1 (E cD T) false] fun X=>?_;unfold Cd.bY
   repeat' first|simp -dsimp only[go_sem,h1,gA,gB,cS]|apply Br.mk<;>intro h<;>try simp -dsimp only[h]|refine aA.c (by first|exact CT) ?_|refine aC ?_|fail
   all_goals first|omega|exact⟨_,_,rfl,rfl⟩
 by_cases h2:x.kind=2
 ·have CT:=vQ (tr T x.a) (tr T x.b) x.f0 x.f1 sa sb;have hC:dkC x (tr T x.a) (tr T x.b)=mgC x.f0 x.f1 (tr T x.a) (tr T x.b):=by simp[dkC,h2]
  have hL:dkL x (tr T x.a) (tr T x.b)=bQ x.f0 x.f1 (tr T x.a++tr T x.b):=by simp[dkL,h2]
  have hV:dkV x (tr T x.a) (tr T x.b)=mgV x.f0 x.f1 (tr T x.a) (tr T x.b):=by unfold dkV mgV;rw[hC,hL]
  have hv2:mgV x.f0 x.f1 (tr T x.a) (tr T x.b)=.sl 1 (E cC (bQ x.f0 x.f1 (tr T x.a++tr T x.b)))∨mgV x.f0 x.f1 (tr T x.a) (tr T x.b)=.v (.slice none 0 0):=by unfold mgV;split<;>simp
  rw[hV,hC];generalize mgC x.f0 x.f1 (tr T x.a) (tr T x.b)=c at *
  rcases hv2 with hv2|hv2<;>rw[hv2] at CT⊢
  all_goals
   refine fn1 Cd.s_l15Make_k [.b 0,.b 1] [.var [.loc (.b 1) 0 T.length,.v (.slice none 0 0)] false,.arr 1 (E cD T) false] fun X=>?_;unfold Cd.bY
   repeat' first|simp -dsimp only[go_sem,h2,gA,gB,cS]|apply Br.mk<;>intro h<;>try simp -dsimp only[h]|refine aA.c (by first|exact CT) ?_|refine aC ?_|fail
   all_goals first|omega|exact⟨_,_,rfl,rfl⟩
 by_cases h5:x.kind=5
 ·have CT:=nK (tr T x.a) x.f0 x.f1 x.text sa hz;have hC:dkC x (tr T x.a) (tr T x.b)=gF x.f0 x.f1 x.text (tr T x.a):=by simp[dkC,h5]
  have hL:dkL x (tr T x.a) (tr T x.b)=flt (iI x.f0 x.f1 x.text) (tr T x.a):=by simp[dkL,h5]
  have hV:dkV x (tr T x.a) (tr T x.b)=iZ x.f0 x.f1 x.text (tr T x.a):=by unfold dkV iZ;rw[hC,hL]
  have hv2:iZ x.f0 x.f1 x.text (tr T x.a)=.sl 1 (E cC (flt (iI x.f0 x.f1 x.text) (tr T x.a)))∨iZ x.f0 x.f1 x.text (tr T x.a)=.v (.slice none 0 0):=by unfold iZ;split<;>simp
  rw[hV,hC];generalize gF x.f0 x.f1 x.text (tr T x.a)=c at *
  rcases hv2 with hv2|hv2<;>rw[hv2] at CT⊢
  all_goals
   refine fn1 Cd.s_l15Make_k [.b 0,.b 1] [.var [.loc (.b 1) 0 T.length,.v (.slice none 0 0)] false,.arr 1 (E cD T) false] fun X=>?_;unfold Cd.bY
   repeat' first|simp -dsimp only[go_sem,h5,gA,gB,cS]|apply Br.mk<;>intro h<;>try simp -dsimp only[h]|refine aA.c (by first|exact CT) ?_|refine aC ?_|fail
   all_goals first|omega|exact⟨_,_,rfl,rfl⟩
 by_cases h6:x.kind=6
 ·have CT:=qQ (tr T x.a) x.f0 x.f1 sa;have hC:dkC x (tr T x.a) (tr T x.b)=bG x.f0 x.f1 (tr T x.a):=by simp[dkC,h6]
  have hL:dkL x (tr T x.a) (tr T x.b)=sZ x.f0 x.f1 (tr T x.a):=by simp[dkL,h6]
  have hV:dkV x (tr T x.a) (tr T x.b)=pW x.f0 x.f1 (tr T x.a):=by unfold dkV pW;rw[hC,hL]
  have hv2:pW x.f0 x.f1 (tr T x.a)=.sl 1 (E cC (sZ x.f0 x.f1 (tr T x.a)))∨pW x.f0 x.f1 (tr T x.a)=.v (.slice none 0 0):=by unfold pW;split<;>simp
  rw[hV,hC];generalize bG x.f0 x.f1 (tr T x.a)=c at *
  rcases hv2 with hv2|hv2<;>rw[hv2] at CT⊢
  all_goals
   refine fn1 Cd.s_l15Make_k [.b 0,.b 1] [.var [.loc (.b 1) 0 T.length,.v (.slice none 0 0)] false,.arr 1 (E cD T) false] fun X=>?_;unfold Cd.bY
   repeat' first|simp -dsimp only[go_sem,h6,gA,gB,cS]|apply Br.mk<;>intro h<;>try simp -dsimp only[h]|refine aA.c (by first|exact CT) ?_|refine aC ?_|fail
   all_goals first|omega|exact⟨_,_,rfl,rfl⟩
 have hC:dkC x (tr T x.a) (tr T x.b)=mtC x.f0 x.f1 (tr T x.a) (tr T x.b):=by simp[dkC,h1,h2,h5,h6]
 have e1:(x.kind==1)=false:=beq_eq_false_iff_ne.2 h1;have e2:(x.kind==2)=false:=beq_eq_false_iff_ne.2 h2;have e5:(x.kind==5)=false:=beq_eq_false_iff_ne.2 h5;have e6:(x.kind==6)=false:=beq_eq_false_iff_ne.2 h6;have CT:=vR (tr T x.a) (tr T x.b) x.f0 x.f1 sa sb;by_cases h0:mtC x.f0 x.f1 (tr T x.a) (tr T x.b)=0
 ·rw[show mtV x.f0 x.f1 (tr T x.a) (tr T x.b)=.sl 1 (E cD (mtL x.f0 x.f1 (tr T x.a) (tr T x.b))) by simp[mtV,h0],h0] at CT;have hl4:(mtL x.f0 x.f1 (tr T x.a) (tr T x.b)).length=4:=rfl;have m0:(E cD (mtL x.f0 x.f1 (tr T x.a) (tr T x.b))).getD 0 []=[.sl 1 (E cC (mat x.f0 x.f1 (tr T x.a) (tr T x.b) true))]:=rfl;have m2:(E cD (mtL x.f0 x.f1 (tr T x.a) (tr T x.b))).getD 2 []=[.sl 1 (E cC (mat x.f0 x.f1 (tr T x.a) (tr T x.b) false))]:=rfl;generalize mtL x.f0 x.f1 (tr T x.a) (tr T x.b)=ML at *
  by_cases h3:x.kind=3
  ·have e3:(x.kind==3)=true:=beq_iff_eq.2 h3;have hV:dkV x (tr T x.a) (tr T x.b)=.sl 1 (E cC (mat x.f0 x.f1 (tr T x.a) (tr T x.b) true)):=by unfold dkV;rw[hC,h0];simp[dkL,h1,h2,h5,h6,h3]
   rw[hV,hC,h0];refine fn1 Cd.s_l15Make_k [.b 0,.b 1] [.var [.loc (.b 1) 0 T.length,.v (.slice none 0 0)] false,.arr 1 (E cD T) false] fun X=>?_;unfold Cd.bY
   repeat' first|simp -dsimp only[go_sem,e1,e2,e5,e6,e3,gA,gB,m0,m2,hl4,cS]|apply Br.mk<;>intro h<;>try simp -dsimp only[h]|refine aA.c (by first|exact CT) ?_|refine aC ?_|fail
   all_goals first|omega|exact⟨_,_,rfl,rfl⟩
  ·have e3:(x.kind==3)=false:=beq_eq_false_iff_ne.2 h3;have hV:dkV x (tr T x.a) (tr T x.b)=.sl 1 (E cC (mat x.f0 x.f1 (tr T x.a) (tr T x.b) false)):=by unfold dkV;rw[hC,h0];simp[dkL,h1,h2,h5,h6,h3]
   rw[hV,hC,h0];refine fn1 Cd.s_l15Make_k [.b 0,.b 1] [.var [.loc (.b 1) 0 T.length,.v (.slice none 0 0)] false,.arr 1 (E cD T) false] fun X=>?_;unfold Cd.bY
   repeat' first|simp -dsimp only[go_sem,e1,e2,e5,e6,e3,gA,gB,m0,m2,hl4,cS]|apply Br.mk<;>intro h<;>try simp -dsimp only[h]|refine aA.c (by first|exact CT) ?_|refine aC ?_|fail
   all_goals first|omega|exact⟨_,_,rfl,rfl⟩
 ·have e0:(mtC x.f0 x.f1 (tr T x.a) (tr T x.b) != 0)=true:=by simp[h0]
  rw[show mtV x.f0 x.f1 (tr T x.a) (tr T x.b)=.v (.slice none 0 0) by simp[mtV,h0]] at CT;have hV:dkV x (tr T x.a) (tr T x.b)=.v (.slice none 0 0):=by unfold dkV;rw[hC,if_neg h0]
  rw[hV,hC];generalize mtC x.f0 x.f1 (tr T x.a) (tr T x.b)=c at *
  refine fn1 Cd.s_l15Make_k [.b 0,.b 1] [.var [.loc (.b 1) 0 T.length,.v (.slice none 0 0)] false,.arr 1 (E cD T) false] fun X=>?_;unfold Cd.bY
  repeat' first|simp -dsimp only[go_sem,e1,e2,e5,e6,e0,gA,gB,cS]|apply Br.mk<;>intro h<;>try simp -dsimp only[h]|refine aA.c (by first|exact CT) ?_|refine aC ?_|fail
  all_goals first|omega|exact⟨_,_,rfl,rfl⟩
attribute [local go_sem] Int.reduceBEq Int.reduceBNe cO cFd aH List.replicate_succ List.replicate_zero List.flatten_cons List.flatten_nil List.cons_append List.nil_append List.set_cons_zero List.set_cons_succ List.length_cons List.length_nil List.length_set List.mem_singleton List.mem_cons List.not_mem_nil or_false false_or Vs.Name.t.injEq Vs.Name.b.injEq List.getD_cons_zero List.getD_cons_succ in
theorem aEV (x:Stp) (hz:x.text.size≤1048576) (T:List (List (List Int))) (hs:∀d,d∈T→bA d) (hl:T.length≤1048576) (iA:0≤x.a∧x.a<(T.length:Int)) (iB:0≤x.b∧x.b<(T.length:Int)) (TS:List (List Tot)):Vs.Fn Tryz.prog F.bY [.var [.loc (.b 1) 0 T.length,.loc (.b 2) 0 TS.length] false,.arr 1 (E cD T) false,.arr 1 (E cTs TS) false] [.ptr (.b 0) 0 0,.ro (cS x)] (.tup [dkV x (tr T x.a) (tr T x.b),.v (.int .i64 (dkC x (tr T x.a) (tr T x.b)))]) ([.var [.loc (.b 1) 0 T.length,.loc (.b 2) 0 TS.length] false,.arr 1 (E cD T) false,.arr 1 (E cTs TS) false].map some):=by
 have sa:=hs _ (gN iA);have sb:=hs _ (gN iB);have gA:=iO iA;have gB:=iO iB;have a0:=iA.1;have a1:=iA.2;have b0:=iB.1;have b1:=iB.2;by_cases h1:x.kind=1
 ·have CT:=sS (tr T x.a) x.f0 x.f1 sa.2 sa.1;have hC:dkC x (tr T x.a) (tr T x.b)=bG x.f0 x.f1 (tr T x.a):=by simp[dkC,h1]
  have hL:dkL x (tr T x.a) (tr T x.b)=bQ x.f0 x.f1 (tr T x.a):=by simp[dkL,h1]
  have hV:dkV x (tr T x.a) (tr T x.b)=mJ x.f0 x.f1 (tr T x.a):=by unfold dkV mJ;rw[hC,hL]
  have hv2:mJ x.f0 x.f1 (tr T x.a)=.sl 1 (E cC (bQ x.f0 x.f1 (tr T x.a)))∨mJ x.f0 x.f1 (tr T x.a)=.v (.slice none 0 0):=by unfold mJ;split<;>simp
  rw[hV,hC];generalize bG x.f0 x.f1 (tr T x.a)=c at *
  rcases hv2 with hv2|hv2<;>rw[hv2] at CT⊢
  all_goals
   refine fn1 Cd.s_l15Make_k [.b 0,.b 1,.b 2] [.var [.loc (.b 1) 0 T.length,.loc (.b 2) 0 TS.length] false,.arr 1 (E cD T) false,.arr 1 (E cTs TS) false] fun X=>?_;unfold Cd.bY
   repeat' first|simp -dsimp only[go_sem,h1,gA,gB,cS]|apply Br.mk<;>intro h<;>try simp -dsimp only[h]|refine aA.c (by first|exact CT) ?_|refine aC ?_|fail
   all_goals first|omega|exact⟨_,_,rfl,rfl⟩
 by_cases h2:x.kind=2
 ·have CT:=vQ (tr T x.a) (tr T x.b) x.f0 x.f1 sa sb;have hC:dkC x (tr T x.a) (tr T x.b)=mgC x.f0 x.f1 (tr T x.a) (tr T x.b):=by simp[dkC,h2]
  have hL:dkL x (tr T x.a) (tr T x.b)=bQ x.f0 x.f1 (tr T x.a++tr T x.b):=by simp[dkL,h2]
  have hV:dkV x (tr T x.a) (tr T x.b)=mgV x.f0 x.f1 (tr T x.a) (tr T x.b):=by unfold dkV mgV;rw[hC,hL]
  have hv2:mgV x.f0 x.f1 (tr T x.a) (tr T x.b)=.sl 1 (E cC (bQ x.f0 x.f1 (tr T x.a++tr T x.b)))∨mgV x.f0 x.f1 (tr T x.a) (tr T x.b)=.v (.slice none 0 0):=by unfold mgV;split<;>simp
  rw[hV,hC];generalize mgC x.f0 x.f1 (tr T x.a) (tr T x.b)=c at *
  rcases hv2 with hv2|hv2<;>rw[hv2] at CT⊢
  all_goals
   refine fn1 Cd.s_l15Make_k [.b 0,.b 1,.b 2] [.var [.loc (.b 1) 0 T.length,.loc (.b 2) 0 TS.length] false,.arr 1 (E cD T) false,.arr 1 (E cTs TS) false] fun X=>?_;unfold Cd.bY
   repeat' first|simp -dsimp only[go_sem,h2,gA,gB,cS]|apply Br.mk<;>intro h<;>try simp -dsimp only[h]|refine aA.c (by first|exact CT) ?_|refine aC ?_|fail
   all_goals first|omega|exact⟨_,_,rfl,rfl⟩
 by_cases h5:x.kind=5
 ·have CT:=nK (tr T x.a) x.f0 x.f1 x.text sa hz;have hC:dkC x (tr T x.a) (tr T x.b)=gF x.f0 x.f1 x.text (tr T x.a):=by simp[dkC,h5]
  have hL:dkL x (tr T x.a) (tr T x.b)=flt (iI x.f0 x.f1 x.text) (tr T x.a):=by simp[dkL,h5]
  have hV:dkV x (tr T x.a) (tr T x.b)=iZ x.f0 x.f1 x.text (tr T x.a):=by unfold dkV iZ;rw[hC,hL]
  have hv2:iZ x.f0 x.f1 x.text (tr T x.a)=.sl 1 (E cC (flt (iI x.f0 x.f1 x.text) (tr T x.a)))∨iZ x.f0 x.f1 x.text (tr T x.a)=.v (.slice none 0 0):=by unfold iZ;split<;>simp
  rw[hV,hC];generalize gF x.f0 x.f1 x.text (tr T x.a)=c at *
  rcases hv2 with hv2|hv2<;>rw[hv2] at CT⊢
  all_goals
   refine fn1 Cd.s_l15Make_k [.b 0,.b 1,.b 2] [.var [.loc (.b 1) 0 T.length,.loc (.b 2) 0 TS.length] false,.arr 1 (E cD T) false,.arr 1 (E cTs TS) false] fun X=>?_;unfold Cd.bY
   repeat' first|simp -dsimp only[go_sem,h5,gA,gB,cS]|apply Br.mk<;>intro h<;>try simp -dsimp only[h]|refine aA.c (by first|exact CT) ?_|refine aC ?_|fail
   all_goals first|omega|exact⟨_,_,rfl,rfl⟩
 by_cases h6:x.kind=6
 ·have CT:=qQ (tr T x.a) x.f0 x.f1 sa;have hC:dkC x (tr T x.a) (tr T x.b)=bG x.f0 x.f1 (tr T x.a):=by simp[dkC,h6]
  have hL:dkL x (tr T x.a) (tr T x.b)=sZ x.f0 x.f1 (tr T x.a):=by simp[dkL,h6]
  have hV:dkV x (tr T x.a) (tr T x.b)=pW x.f0 x.f1 (tr T x.a):=by unfold dkV pW;rw[hC,hL]
  have hv2:pW x.f0 x.f1 (tr T x.a)=.sl 1 (E cC (sZ x.f0 x.f1 (tr T x.a)))∨pW x.f0 x.f1 (tr T x.a)=.v (.slice none 0 0):=by unfold pW;split<;>simp
  rw[hV,hC];generalize bG x.f0 x.f1 (tr T x.a)=c at *
  rcases hv2 with hv2|hv2<;>rw[hv2] at CT⊢
  all_goals
   refine fn1 Cd.s_l15Make_k [.b 0,.b 1,.b 2] [.var [.loc (.b 1) 0 T.length,.loc (.b 2) 0 TS.length] false,.arr 1 (E cD T) false,.arr 1 (E cTs TS) false] fun X=>?_;unfold Cd.bY
   repeat' first|simp -dsimp only[go_sem,h6,gA,gB,cS]|apply Br.mk<;>intro h<;>try simp -dsimp only[h]|refine aA.c (by first|exact CT) ?_|refine aC ?_|fail
   all_goals first|omega|exact⟨_,_,rfl,rfl⟩
 have hC:dkC x (tr T x.a) (tr T x.b)=mtC x.f0 x.f1 (tr T x.a) (tr T x.b):=by simp[dkC,h1,h2,h5,h6]
 have e1:(x.kind==1)=false:=beq_eq_false_iff_ne.2 h1;have e2:(x.kind==2)=false:=beq_eq_false_iff_ne.2 h2;have e5:(x.kind==5)=false:=beq_eq_false_iff_ne.2 h5;have e6:(x.kind==6)=false:=beq_eq_false_iff_ne.2 h6;have CT:=vR (tr T x.a) (tr T x.b) x.f0 x.f1 sa sb;by_cases h0:mtC x.f0 x.f1 (tr T x.a) (tr T x.b)=0
 ·rw[show mtV x.f0 x.f1 (tr T x.a) (tr T x.b)=.sl 1 (E cD (mtL x.f0 x.f1 (tr T x.a) (tr T x.b))) by simp[mtV,h0],h0] at CT;have hl4:(mtL x.f0 x.f1 (tr T x.a) (tr T x.b)).length=4:=rfl;have m0:(E cD (mtL x.f0 x.f1 (tr T x.a) (tr T x.b))).getD 0 []=[.sl 1 (E cC (mat x.f0 x.f1 (tr T x.a) (tr T x.b) true))]:=rfl;have m2:(E cD (mtL x.f0 x.f1 (tr T x.a) (tr T x.b))).getD 2 []=[.sl 1 (E cC (mat x.f0 x.f1 (tr T x.a) (tr T x.b) false))]:=rfl;generalize mtL x.f0 x.f1 (tr T x.a) (tr T x.b)=ML at *
  by_cases h3:x.kind=3
  ·have e3:(x.kind==3)=true:=beq_iff_eq.2 h3;have hV:dkV x (tr T x.a) (tr T x.b)=.sl 1 (E cC (mat x.f0 x.f1 (tr T x.a) (tr T x.b) true)):=by unfold dkV;rw[hC,h0];simp[dkL,h1,h2,h5,h6,h3]
   rw[hV,hC,h0];refine fn1 Cd.s_l15Make_k [.b 0,.b 1,.b 2] [.var [.loc (.b 1) 0 T.length,.loc (.b 2) 0 TS.length] false,.arr 1 (E cD T) false,.arr 1 (E cTs TS) false] fun X=>?_;unfold Cd.bY
   repeat' first|simp -dsimp only[go_sem,e1,e2,e5,e6,e3,gA,gB,m0,m2,hl4,cS]|apply Br.mk<;>intro h<;>try simp -dsimp only[h]|refine aA.c (by first|exact CT) ?_|refine aC ?_|fail
   all_goals first|omega|exact⟨_,_,rfl,rfl⟩
  ·have e3:(x.kind==3)=false:=beq_eq_false_iff_ne.2 h3;have hV:dkV x (tr T x.a) (tr T x.b)=.sl 1 (E cC (mat x.f0 x.f1 (tr T x.a) (tr T x.b) false)):=by unfold dkV;rw[hC,h0];simp[dkL,h1,h2,h5,h6,h3]
   rw[hV,hC,h0];refine fn1 Cd.s_l15Make_k [.b 0,.b 1,.b 2] [.var [.loc (.b 1) 0 T.length,.loc (.b 2) 0 TS.length] false,.arr 1 (E cD T) false,.arr 1 (E cTs TS) false] fun X=>?_;unfold Cd.bY
   repeat' first|simp -dsimp only[go_sem,e1,e2,e5,e6,e3,gA,gB,m0,m2,hl4,cS]|apply Br.mk<;>intro h<;>try simp -dsimp only[h]|refine aA.c (by first|exact CT) ?_|refine aC ?_|fail
   all_goals first|omega|exact⟨_,_,rfl,rfl⟩
 ·have e0:(mtC x.f0 x.f1 (tr T x.a) (tr T x.b) != 0)=true:=by simp[h0]
  rw[show mtV x.f0 x.f1 (tr T x.a) (tr T x.b)=.v (.slice none 0 0) by simp[mtV,h0]] at CT;have hV:dkV x (tr T x.a) (tr T x.b)=.v (.slice none 0 0):=by unfold dkV;rw[hC,if_neg h0]
  rw[hV,hC];generalize mtC x.f0 x.f1 (tr T x.a) (tr T x.b)=c at *
  refine fn1 Cd.s_l15Make_k [.b 0,.b 1,.b 2] [.var [.loc (.b 1) 0 T.length,.loc (.b 2) 0 TS.length] false,.arr 1 (E cD T) false,.arr 1 (E cTs TS) false] fun X=>?_;unfold Cd.bY
  repeat' first|simp -dsimp only[go_sem,e1,e2,e5,e6,e0,gA,gB,cS]|apply Br.mk<;>intro h<;>try simp -dsimp only[h]|refine aA.c (by first|exact CT) ?_|refine aC ?_|fail
  all_goals first|omega|exact⟨_,_,rfl,rfl⟩
end
end Go.Proofs.YthbnjmgjhonfbaaGreat
