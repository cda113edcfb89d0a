/- The law FnExactNeedlessSteps, joined. -/
import Derived.Test.YthfnpdhpefialaaGreatYwNp
import Derived.Test.YthfnpdhpefialaaGreatYwMb
import Derived.Test.YthfnpdhpefialaaGreatYwZt
import Derived.Test.YthfnpdhpefialaaGreatYuM
import Derived.Test.YthfnpdhpefialaaGreatVtR
import Derived.Test.YthfnpdhpefialaaGreatVuM
set_option linter.all false
set_option maxHeartbeats 8000000
namespace Go.Proofs.YthfnpdhpefialaaGreat
open Go.Vs
section
variable [Vs.Envs]
attribute [local irreducible] Vs.Fn mkD totD ndC ndL ndB eqR mtx stpB chOK areCh chTo chAt l03 chB rk cd3 chI stp stpTo
theorem szI_mono {l:List Int}{n:Int} (hl:l.length<2 ^ 63) (h0:0≤n) (hn:n≤1048576) (h:0≤szI l n):szI l n≤n:=(szI_le hl h0 hn h).1
def bigC (l:List (List Int)):Prop:=l.length<2 ^ 63∧∀c,c∈l→c.length<2 ^ 63
def szDk (l:List (List Int)) (n:Int):Int:=szL szI l n
theorem szDk_small {l:List (List Int)} (hb:bigC l) {n:Int} (h0:0≤n) (hn:n≤1048576) (h:0≤szDk l n):smallC l:=by
 refine⟨?_,fun c hc=>?_⟩
 ·have:=(szL_mono (fun x hx _ a b c=>szI_mono (hb.2 x hx) a b c) hb.1 h0 hn h).2;omega
 ·obtain⟨m,h1,h2,h3⟩:=szL_in (fun x hx _ a b c=>szI_mono (hb.2 x hx) a b c) hb.1 h0 hn h c hc
  have:=(szI_le (hb.2 c hc) h1 h2 h3).2;omega
abbrev ACard:={l:List I64 // l.length<2 ^ 63}
abbrev ACards:={l:List ACard // l.length<2 ^ 63}
def gCards (d:ACards):List (List Int):=d.1.map fun c=>c.1.map fun n=>n.1
theorem gCards_big (d:ACards):bigC (gCards d):=by
 refine⟨by simpa[gCards] using d.2,fun c hc=>?_⟩
 obtain⟨x,_,rfl⟩:=List.mem_map.1 hc
 simpa using x.2
theorem gCards_enc (d:ACards):E cC (gCards d)=d.1.map eCard:=by
 simp only[gCards,E_map]
 congr 1
 funext c
 simp only[cC,E_map]
 rfl
theorem cS_flat {l:List Stp}:∀r,r∈E cS l→Vs.flatL r=true:=fun r hr=>by
 obtain⟨x,_,rfl⟩:=List.mem_map.1 hr
 rfl
theorem cI_flat {l:List Int}:∀r,r∈E cI l→Vs.flatL r=true:=fun r hr=>by
 obtain⟨x,_,rfl⟩:=List.mem_map.1 hr
 rfl
theorem ndL_len {fl:List Stp} (hl:fl.length≤1048576) (l:List (List Int)) (n:Nat):(ndL fl l n).length≤1048576:=by
 have:=selN_len (ndB fl l n) fl.length
 unfold ndL
 omega
theorem eqNil  : Fz F.l_eqInt64S [.v (.slice none 0 0),.v (.slice none 0 0)] (.v (.bool true)):=by
 refine fn0 Cd.l_eqInt64S_k fun X=>?_
 simp -dsimp only[go_sem]
 refine LoopK.at dM (X:=Unit) (fun _=>[]) (fun _=>[]) (fun _=>0) () ?_ ?_
 ·exact le0
 ·rintro⟨⟩
  simp -dsimp only[go_sem]
  refine Br.mk (fun h=>absurd h (by decide)) fun _=>?_
  simp -dsimp only[go_sem]
  exact⟨ret_eq rfl,fun h=>h rfl⟩
theorem markNil (k:Int):Fz F.l_markInt64S [.v (.slice none 0 0),.v (.int .i64 k)] (.v (.int .i64 k)):=by
 refine fn0 Cd.l_markInt64S_k fun X=>?_
 simp -dsimp only[go_sem]
 refine LoopK.at dM (X:=Unit) (fun _=>[]) (fun _=>[]) (fun _=>0) () ?_ ?_
 ·exact le0
 ·rintro⟨⟩
  simp -dsimp only[go_sem]
  refine Br.mk (fun h=>absurd h (by decide)) fun _=>?_
  simp -dsimp only[go_sem]
  exact⟨ret_eq rfl,fun h=>h rfl⟩
theorem heldNil (k:Int):Fz F.l_heldInt64S [.v (.slice none 0 0),.v (.int .i64 k)] (.v (.int .i64 k)):=by
 refine fn0 Cd.l_heldInt64S_k fun X=>?_
 simp -dsimp only[go_sem]
 refine LoopK.at dM (X:=Unit) (fun _=>[]) (fun _=>[]) (fun _=>0) () ?_ ?_
 ·exact le0
 ·rintro⟨⟩
  simp -dsimp only[go_sem]
  refine Br.mk (fun h=>absurd h (by decide)) fun _=>?_
  simp -dsimp only[go_sem]
  exact⟨ret_eq rfl,fun h=>h rfl⟩
attribute [local go_sem] List.length_nil in
theorem roA0 (C:Ctx) (fl:List Stp) (l:List (List Int)) (n:Int) (hs0:∀x,x∈fl→x.text.size<2 ^ 63) (hl0:fl.length<2 ^ 63) (gb:bigC l) (he:ndC fl l n=0) :
  Vs.wpcN Tryz.prog C (drawnG Tryz.prog) 8 Cd.lawNeedlessSteps (fun σ'=>LeL σ' ⟨[(0,.sl 9 (E cS fl)),(1,.sl 1 (E cC l)),(2,.v (.int .i64 n)),(8,.sl 1 (E cI (ndL fl l n.toNat))),(9,.v (.int .i64 0)),(10,.loc (.t 39 0) 0 fl.length)],[(.t 39 0,.arr 9 (E cS fl) false)]⟩∧(∀x,x∈fl→x.text.size≤1048576)∧fl.length≤1048576∧smallC l) (fun e σ'=>match e with|.ret=>LeL σ' ⟨[(6,.v (.bool true))],[]⟩|.exit _=>False) ⟨ini 0 [.sl 9 (E cS fl),.sl 1 (E cC l),.v (.int .i64 n)],[]⟩:=by
 unfold Cd.lawNeedlessSteps
 simp -dsimp only[go_sem]
 refine CallK.flat (szStepS fl 1048576 hs0 hl0 (by omega)) rfl ?_
 simp -dsimp only[go_sem]
 refine Br.mk (fun h1=>by simp -dsimp only[go_sem];simp[Vs.LeL,Vs.look,Vs.hlook]) (fun h1=>?_)
 simp only[decide_eq_false_iff_not] at h1
 have hl:fl.length≤1048576:=by have:=szL_len hl0 (by omega) h1;omega
 have hz:∀x,x∈fl→x.text.size≤1048576:=by
  intro x hx
  obtain⟨m,h2,h3,h4⟩:=szL_mem (fun x hx n h0 hn h=>szStp_le (hs0 x hx) h0 hn h) hl0 (by omega) h1 x hx
  have:=(szT_le (hs0 x hx) h2 h3 h4).2
  omega
 obtain⟨z1,m1⟩:=szL_le (fun x hx n h0 hn h=>szStp_le (hs0 x hx) h0 hn h) hl0 (by omega) h1
 generalize szL szStp fl 1048576=n1 at *
 simp -dsimp only[go_sem]
 refine CallK.flat (szCardS l n1 gb.2 gb.1 ⟨z1,m1⟩) rfl ?_
 simp -dsimp only[go_sem]
 refine Br.mk (fun h3=>by simp -dsimp only[go_sem];simp[Vs.LeL,Vs.look,Vs.hlook]) (fun h3=>?_)
 simp only[decide_eq_false_iff_not] at h3
 have hk:=szDk_small gb z1 m1 (by unfold szDk;omega)
 have SP:=spec_ND0 fl hz hl l hk n he
 repeat' first|simp -dsimp only[go_sem]|apply Br.mk<;>intro h<;>try simp -dsimp only[h]|refine CallK.c (by first|exact toCardS l hk.2 hk.1|exact SP) ?_|refine CallK.own (by first|exact toStepSO fl hl) rfl ?_|refine aC ?_|fail
 all_goals first|exact⟨by simp[Vs.LeL,Vs.look,Vs.hlook],hz,hl,hk⟩
theorem roC0 (C:Ctx) (fl:List Stp) (l:List (List Int)) (n:Int) (hz:∀x,x∈fl→x.text.size≤1048576) (hl:fl.length≤1048576) (hk:smallC l) (he:ndC fl l n=0) (a0 a1 a6 a9:Value) (k0:∀S w,Vs.Env S w→RC S w (.sl 9 (E cS fl)) a0) (k1:∀S w,Vs.Env S w→RC S w (.sl 1 (E cC l)) a1) (k6:∀S w,Vs.Env S w→RC S w (.sl 1 (E cI (ndL fl l n.toNat))) a6) (k9:∀S w,Vs.Env S w→RC S w (.sl 1 (E cC l)) a9) :
  Vs.wpcN Tryz.prog C (drawnG Tryz.prog) 6 (Vs.dropS 9 Cd.lawNeedlessSteps) (fun σ'=>LeL σ' ⟨[(0,.v a0),(1,.v a1),(2,.v (.int .i64 n)),(8,.v a6),(9,.v (.int .i64 0)),(11,.v a9),(12,.loc (.t 46 0) 0 (ndL fl l n.toNat).length),(13,.v (.int .i64 0)),(14,.v (.int .i64 (1+9*fl.length:Nat)))],[(.t 39 0,.arr 9 (E cS (mkR (mS 1) fl fl.length)) false),(.t 46 0,.arr 1 (E cI (ndL fl l n.toNat)) false)]⟩∧True) (fun _ _=>False) ⟨[(0,.v a0),(1,.v a1),(2,.v (.int .i64 n)),(8,.v a6),(9,.v (.int .i64 0)),(10,.loc (.t 39 0) 0 fl.length),(11,.v a9)],[(.t 39 0,.arr 9 (E cS fl) false)]⟩:=by
 have n0:(0 != 0)=false:=by simp
 have KC:=(toCardS l hk.2 hk.1).known (ys':=[.v a1]) rfl (fun j hj=>by match j,hj with|0,_=>exact .inr ⟨_,rfl,k1⟩)
 have KS:=(toStepS fl hl).known (ys':=[.v a0]) rfl (fun j hj=>by match j,hj with|0,_=>exact .inr ⟨_,rfl,k0⟩)
 have KQ:=(eqCardS l hk.2 hk.1).known (ys':=[.v a9,.sl 1 (E cC l)]) rfl (fun j hj=>by match j,hj with|0,_=>exact .inr ⟨_,rfl,k9⟩|1,_=>exact .inl rfl)
 have hT:=ndL_len hl l n.toNat
 have hfl:∀b,some b∈[some (Blk.arr 1 (E cI (ndL fl l n.toNat)) false)]→Vs.flatB b:=flat_one (flatB_E (fun _=>rfl))
 have KI:=(impl_ND0 fl hz hl l hk n he).known (ys':=[.sl 9 (E cS fl),.v a9,.v (.int .i64 n)]) rfl (fun j hj=>by match j,hj with|0,_=>exact .inl rfl|1,_=>exact .inr ⟨_,rfl,k9⟩|2,_=>exact .inl rfl)
 have KT:=(eqInt64S hT).known (ys':=[.sl 1 (E cI (ndL fl l n.toNat)),.v a6]) rfl (fun j hj=>by match j,hj with|0,_=>exact .inl rfl|1,_=>exact .inr ⟨_,rfl,k6⟩)
 generalize ndL fl l n.toNat=T at *
 unfold Cd.lawNeedlessSteps
 simp only[Vs.dropS]
 repeat' first|simp -dsimp only[go_sem,List.length_nil,n0]|apply Br.mk<;>intro h<;>try simp -dsimp only[h]|refine CallK.c (by first|exact KT|exact KQ|exact KS|exact KC|exact eqStepS fl hl) ?_|refine CallK.lend (by first|exact KI) rfl hfl rfl ?_|refine CallK.bor (by first|exact markStepS fl 1 hl (by omega) (by omega)) rfl ?_|refine aC ?_|fail
 all_goals first|(simp[Vs.LeL,Vs.look,Vs.hlook];done)|exact⟨by simp[Vs.LeL,Vs.look,Vs.hlook],trivial⟩
theorem roE0 (C:Ctx) (fl:List Stp) (l:List (List Int)) (n:Int) (hz:∀x,x∈fl→x.text.size≤1048576) (hl:fl.length≤1048576) (hk:smallC l) (he:ndC fl l n=0) (a0 a1 a6:Value) (m:Nat) (k0:∀S w,Vs.Env S w→RC S w (.sl 9 (E cS fl)) a0) (k1:∀S w,Vs.Env S w→RC S w (.sl 1 (E cC l)) a1) (k6:∀S w,Vs.Env S w→RC S w (.sl 1 (E cI (ndL fl l n.toNat))) a6) :
  wpc Tryz.prog C (drawnG Tryz.prog) (Vs.dropS 16 Cd.lawNeedlessSteps) (fun _=>False) (fun e σ'=>match e with|.ret=>LeL σ' ⟨[(6,.v (.bool true))],[]⟩|.exit _=>False) ⟨[(0,.v a0),(1,.v a1),(2,.v (.int .i64 n)),(8,.v a6),(9,.v (.int .i64 0)),(12,.loc (.t 46 0) 0 (ndL fl l n.toNat).length),(13,.v (.int .i64 0)),(14,.v (.int .i64 (m:Nat)))],[(.t 46 0,.arr 1 (E cI (ndL fl l n.toNat)) false)]⟩:=by
 have n0:(0 != 0)=false:=by simp
 have hm:decide ((m:Int)<0)=false:=decide_eq_false (by omega)
 have hI:=impl_ND0 fl hz hl l hk n he
 have KC:=(toCardS l hk.2 hk.1).known (ys':=[.v a1]) rfl (fun j hj=>by match j,hj with|0,_=>exact .inr ⟨_,rfl,k1⟩)
 have KS:=(toStepS fl hl).known (ys':=[.v a0]) rfl (fun j hj=>by match j,hj with|0,_=>exact .inr ⟨_,rfl,k0⟩)
 have hT:=ndL_len hl l n.toNat
 have hfl:∀b,some b∈[some (Blk.arr 1 (E cI (ndL fl l n.toNat)) false)]→Vs.flatB b:=flat_one (flatB_E (fun _=>rfl))
 have KT:=(eqInt64S hT).known (ys':=[.sl 1 (E cI (ndL fl l n.toNat)),.v a6]) rfl (fun j hj=>by match j,hj with|0,_=>exact .inl rfl|1,_=>exact .inr ⟨_,rfl,k6⟩)
 generalize ndL fl l n.toNat=T at *
 have hn2:decide (((1+T.length:Nat):Int)<0)=false:=decide_eq_false (by omega)
 have hn3:(((1+T.length:Nat):Int) != ((1+T.length:Nat):Int))=false:=by simp
 have hTk:List.take T.length (E cI (mkR (mI 1) T T.length))=E cI (mkR (mI 1) T T.length):=List.take_of_length_le (by rw[E_len,mkR_length _ _ (Nat.le_refl _)];exact Nat.le_refl _)
 unfold Cd.lawNeedlessSteps
 simp only[Vs.dropS]
 repeat' first|simp -dsimp only[go_sem,List.length_nil,n0,E_take,E_len,List.drop_zero,hTk,hm,hn2,hn3]|apply Br.mk<;>intro h<;>try simp -dsimp only[h]|refine CallK.c (by first|exact KT|exact KS|exact KC|exact heldInt64S T 1 hT (by omega)) ?_|refine CallK.lend (by first|exact hI) rfl hfl rfl ?_|refine CallK.bor (by first|exact markInt64S T 1 hT (by omega)) rfl ?_|refine aC ?_|fail
 all_goals first|(simp[Vs.LeL,Vs.look,Vs.hlook];done)
attribute [local go_sem] List.length_nil in
theorem roA1 (C:Ctx) (fl:List Stp) (l:List (List Int)) (n:Int) (hs0:∀x,x∈fl→x.text.size<2 ^ 63) (hl0:fl.length<2 ^ 63) (gb:bigC l) (he:ndC fl l n≠0) :
  Vs.wpcN Tryz.prog C (drawnG Tryz.prog) 8 Cd.lawNeedlessSteps (fun σ'=>LeL σ' ⟨[(0,.sl 9 (E cS fl)),(1,.sl 1 (E cC l)),(2,.v (.int .i64 n)),(8,.v (.slice none 0 0)),(9,.v (.int .i64 (ndC fl l n))),(10,.loc (.t 39 0) 0 fl.length)],[(.t 39 0,.arr 9 (E cS fl) false)]⟩∧(∀x,x∈fl→x.text.size≤1048576)∧fl.length≤1048576∧smallC l) (fun e σ'=>match e with|.ret=>LeL σ' ⟨[(6,.v (.bool true))],[]⟩|.exit _=>False) ⟨ini 0 [.sl 9 (E cS fl),.sl 1 (E cC l),.v (.int .i64 n)],[]⟩:=by
 unfold Cd.lawNeedlessSteps
 simp -dsimp only[go_sem]
 refine CallK.flat (szStepS fl 1048576 hs0 hl0 (by omega)) rfl ?_
 simp -dsimp only[go_sem]
 refine Br.mk (fun h1=>by simp -dsimp only[go_sem];simp[Vs.LeL,Vs.look,Vs.hlook]) (fun h1=>?_)
 simp only[decide_eq_false_iff_not] at h1
 have hl:fl.length≤1048576:=by have:=szL_len hl0 (by omega) h1;omega
 have hz:∀x,x∈fl→x.text.size≤1048576:=by
  intro x hx
  obtain⟨m,h2,h3,h4⟩:=szL_mem (fun x hx n h0 hn h=>szStp_le (hs0 x hx) h0 hn h) hl0 (by omega) h1 x hx
  have:=(szT_le (hs0 x hx) h2 h3 h4).2
  omega
 obtain⟨z1,m1⟩:=szL_le (fun x hx n h0 hn h=>szStp_le (hs0 x hx) h0 hn h) hl0 (by omega) h1
 generalize szL szStp fl 1048576=n1 at *
 simp -dsimp only[go_sem]
 refine CallK.flat (szCardS l n1 gb.2 gb.1 ⟨z1,m1⟩) rfl ?_
 simp -dsimp only[go_sem]
 refine Br.mk (fun h3=>by simp -dsimp only[go_sem];simp[Vs.LeL,Vs.look,Vs.hlook]) (fun h3=>?_)
 simp only[decide_eq_false_iff_not] at h3
 have hk:=szDk_small gb z1 m1 (by unfold szDk;omega)
 have SP:=spec_ND1 fl hz hl l hk n he
 repeat' first|simp -dsimp only[go_sem]|apply Br.mk<;>intro h<;>try simp -dsimp only[h]|refine CallK.c (by first|exact toCardS l hk.2 hk.1|exact SP) ?_|refine CallK.own (by first|exact toStepSO fl hl) rfl ?_|refine aC ?_|fail
 all_goals first|exact⟨by simp[Vs.LeL,Vs.look,Vs.hlook],hz,hl,hk⟩
theorem roC1 (C:Ctx) (fl:List Stp) (l:List (List Int)) (n:Int) (hz:∀x,x∈fl→x.text.size≤1048576) (hl:fl.length≤1048576) (hk:smallC l) (he:ndC fl l n≠0) (a0 a1 a9:Value) (k0:∀S w,Vs.Env S w→RC S w (.sl 9 (E cS fl)) a0) (k1:∀S w,Vs.Env S w→RC S w (.sl 1 (E cC l)) a1)  (k9:∀S w,Vs.Env S w→RC S w (.sl 1 (E cC l)) a9) :
  Vs.wpcN Tryz.prog C (drawnG Tryz.prog) 6 (Vs.dropS 9 Cd.lawNeedlessSteps) (fun σ'=>LeL σ' ⟨[(0,.v a0),(1,.v a1),(2,.v (.int .i64 n)),(8,.v (.slice none 0 0)),(9,.v (.int .i64 (ndC fl l n))),(11,.v a9),(12,.v (.slice none 0 0)),(13,.v (.int .i64 (ndC fl l n))),(14,.v (.int .i64 (1+9*fl.length:Nat)))],[(.t 39 0,.arr 9 (E cS (mkR (mS 1) fl fl.length)) false)]⟩∧True) (fun _ _=>False) ⟨[(0,.v a0),(1,.v a1),(2,.v (.int .i64 n)),(8,.v (.slice none 0 0)),(9,.v (.int .i64 (ndC fl l n))),(10,.loc (.t 39 0) 0 fl.length),(11,.v a9)],[(.t 39 0,.arr 9 (E cS fl) false)]⟩:=by
 have n0:((ndC fl l n) != (ndC fl l n))=false:=by simp
 have KC:=(toCardS l hk.2 hk.1).known (ys':=[.v a1]) rfl (fun j hj=>by match j,hj with|0,_=>exact .inr ⟨_,rfl,k1⟩)
 have KS:=(toStepS fl hl).known (ys':=[.v a0]) rfl (fun j hj=>by match j,hj with|0,_=>exact .inr ⟨_,rfl,k0⟩)
 have KQ:=(eqCardS l hk.2 hk.1).known (ys':=[.v a9,.sl 1 (E cC l)]) rfl (fun j hj=>by match j,hj with|0,_=>exact .inr ⟨_,rfl,k9⟩|1,_=>exact .inl rfl)
 have KI:=(impl_ND1 fl hz hl l hk n he).known (ys':=[.sl 9 (E cS fl),.v a9,.v (.int .i64 n)]) rfl (fun j hj=>by match j,hj with|0,_=>exact .inl rfl|1,_=>exact .inr ⟨_,rfl,k9⟩|2,_=>exact .inl rfl)
 generalize ndC fl l n=c at *
 unfold Cd.lawNeedlessSteps
 simp only[Vs.dropS]
 repeat' first|simp -dsimp only[go_sem,List.length_nil,n0]|apply Br.mk<;>intro h<;>try simp -dsimp only[h]|refine CallK.c (by first|exact KI|exact KQ|exact KS|exact KC|exact eqStepS fl hl|exact eqNil) ?_|refine CallK.bor (by first|exact markStepS fl 1 hl (by omega) (by omega)) rfl ?_|refine aC ?_|refine CallK.flat (B:=[]) (by first|exact eqNil) rfl ?_|fail
 all_goals first|(simp[Vs.LeL,Vs.look,Vs.hlook];done)|exact⟨by simp[Vs.LeL,Vs.look,Vs.hlook],trivial⟩
theorem roE1 (C:Ctx) (fl:List Stp) (l:List (List Int)) (n:Int) (hz:∀x,x∈fl→x.text.size≤1048576) (hl:fl.length≤1048576) (hk:smallC l) (he:ndC fl l n≠0) (a0 a1:Value) (m:Nat) (k0:∀S w,Vs.Env S w→RC S w (.sl 9 (E cS fl)) a0) (k1:∀S w,Vs.Env S w→RC S w (.sl 1 (E cC l)) a1)  :
  wpc Tryz.prog C (drawnG Tryz.prog) (Vs.dropS 16 Cd.lawNeedlessSteps) (fun _=>False) (fun e σ'=>match e with|.ret=>LeL σ' ⟨[(6,.v (.bool true))],[]⟩|.exit _=>False) ⟨[(0,.v a0),(1,.v a1),(2,.v (.int .i64 n)),(8,.v (.slice none 0 0)),(9,.v (.int .i64 (ndC fl l n))),(12,.v (.slice none 0 0)),(13,.v (.int .i64 (ndC fl l n))),(14,.v (.int .i64 (m:Nat)))],[]⟩:=by
 have n0:((ndC fl l n) != (ndC fl l n))=false:=by simp
 have hm:decide ((m:Int)<0)=false:=decide_eq_false (by omega)
 have hI:=impl_ND1 fl hz hl l hk n he
 have KC:=(toCardS l hk.2 hk.1).known (ys':=[.v a1]) rfl (fun j hj=>by match j,hj with|0,_=>exact .inr ⟨_,rfl,k1⟩)
 have KS:=(toStepS fl hl).known (ys':=[.v a0]) rfl (fun j hj=>by match j,hj with|0,_=>exact .inr ⟨_,rfl,k0⟩)
 have hn3:((1:Int) != 1)=false:=rfl
 have hn4:decide ((1:Int)<0)=false:=rfl
 generalize ndC fl l n=c at *
 unfold Cd.lawNeedlessSteps
 simp only[Vs.dropS]
 repeat' first|simp -dsimp only[go_sem,List.length_nil,n0,hm,hn3,hn4]|apply Br.mk<;>intro h<;>try simp -dsimp only[h]|refine CallK.c (by first|exact KS|exact KC|exact hI) ?_|refine aC ?_|refine CallK.flat (B:=[]) (by first|exact eqNil|exact markNil _|exact heldNil _) rfl ?_|fail
 all_goals first|(simp[Vs.LeL,Vs.look,Vs.hlook];done)
end
section
variable [Vs.Envs]
attribute [local irreducible] Vs.Fn mkD totD ndC ndL ndB eqR mtx stpB chOK areCh chTo chAt l03 chB rk cd3 chI stp stpTo
attribute [local go_sem] List.length_nil in
theorem law_RO0 (fl:List Stp) (l:List (List Int)) (n:Int) (hs0:∀x,x∈fl→x.text.size<2 ^ 63) (hl0:fl.length<2 ^ 63) (gb:bigC l) (he:ndC fl l n=0):Fz F.lawNeedlessSteps [.sl 9 (E cS fl),.sl 1 (E cC l),.v (.int .i64 n)] (.v (.bool true)):=by
 refine Vs.Fn.of_calls (Vs.CodeIsR.has Cd.lawNeedlessSteps_k.o) (by intro y hy;simp only[List.mem_cons,List.not_mem_nil,or_false] at hy;rcases hy with rfl|rfl|rfl<;>rfl) rfl fun S w vs hS he0 hvs hargs=>?_
 obtain⟨h1,h2,_⟩:=Cd.lawNeedlessSteps_k.o
 obtain⟨body,hb,hc⟩:=Option.bind_eq_some_iff.1 h2
 have hz0:(Tryz.f3.body.map (zB Tryz.f3.ntmps (drawnG Tryz.prog)))=some true:=by kernel_rfl
 rw[hb] at hz0
 refine Vs.Pt.calls (dr:=drawnG Tryz.prog) (ac:=Cd.lawNeedlessSteps) h1 hb hc (by simpa using hz0) (args:=[.sl 9 (E cS fl),.sl 1 (E cC l),.v (.int .i64 n)]) (by rw[Cd.lawNeedlessSteps_k.n];exact Nat.le_of_ble_eq_true rfl) hS he0 hvs hargs fun C1 a hnt hw0 hS0 hp=>?_
 have hM:=hp.nomut
 subst hw0
 have MK:=fun(k0:Nat) (hk0:k0≤2 ^ 60) (l:List (List Int)) (hk:smallC l) (S:Nat→Prop) (w:World) (v:Value) (m:Vs.Mem) hS he hno hd=>markCardS_dk (S:=S) (w:=w) (v:=v) (l:=l) (m:=m) k0 hk0 hk hS he hno hd
 refine hp.go dM hnt 8 _ (τ:=⟨[(0,.sl 9 (E cS fl)),(1,.sl 1 (E cC l)),(2,.v (.int .i64 n)),(8,.sl 1 (E cI (ndL fl l n.toNat))),(9,.v (.int .i64 0)),(10,.loc (.t 39 0) 0 fl.length)],[(.t 39 0,.arr 9 (E cS fl) false)]⟩) (E:=(fun e σ'=>match e with|.ret=>LeL σ' ⟨[(6,.v (.bool true))],[]⟩|.exit _=>False)) (fun p hp=>by
     simp only[List.mem_cons,List.not_mem_nil,or_false] at hp
     rcases hp with rfl
     · exact⟨fun r hr=>cS_flat r hr,rfl⟩) (fun C hC=>roA0 C fl l n hs0 hl0 gb he) (fun i σ h=>h) (fun C a w hl hg=>⟨.inl rfl,Vs.law_end hl hM Cd.lawNeedlessSteps_k.r hg⟩) fun aA wA SA pA hpA hX=>?_
 obtain⟨hz,hl,hk⟩:=hX
 have heA:=hpA.env
 have hdA:=hpA.dom
 have EM:=fun(w':World) (h:∀b,SA b→w'.heap[b]? = wA.heap[b]?)=>heA.mono (fun _ h=>h) h
 have r0:RC SA wA (.sl 9 (E cS fl)) (aA.tmps.getD 0 undef):=hpA.val (t:=0) rfl
 have r1:RC SA wA (.sl 1 (E cC l)) (aA.tmps.getD 1 undef):=hpA.val (t:=1) rfl
 have r6:RC SA wA (.sl 1 (E cI (ndL fl l n.toNat))) (aA.tmps.getD 8 undef):=hpA.val (t:=8) rfl
 have hpS:∃a0 a1 a6,a0=aA.tmps.getD 0 undef∧a1=aA.tmps.getD 1 undef∧a6=aA.tmps.getD 8 undef∧Pt (Vs.keepE SA wA) C1 (⟨[(0,.v a0),(1,.v a1),(2,.v (.int .i64 n)),(8,.v a6),(9,.v (.int .i64 0)),(10,.loc (.t 39 0) 0 fl.length)],[(.t 39 0,.arr 9 (E cS fl) false)]⟩:St) aA wA SA:=
  ⟨_,_,_,rfl,rfl,rfl,hpA.set [(0,.v (aA.tmps.getD 0 undef)),(1,.v (aA.tmps.getD 1 undef)),(2,.v (.int .i64 n)),(8,.v (aA.tmps.getD 8 undef)),(9,.v (.int .i64 0)),(10,.loc (.t 39 0) 0 fl.length)] (fun p hp=>by
    simp only[List.mem_cons,List.not_mem_nil,or_false] at hp
    rcases hp with rfl|rfl|rfl|rfl|rfl|rfl
    · exact .inr (.v _)
    · exact .inr (.v _)
    · exact .inl ⟨rfl,rfl⟩
    · exact .inr (.v _)
    · exact .inl ⟨rfl,rfl⟩
    · exact .inl ⟨rfl,rfl⟩)⟩
 obtain⟨a0,a1,a6,e0,e1,e6,hpS⟩:=hpS
 rw[←e0] at r0
 rw[←e1] at r1
 rw[←e6] at r6
 letI IS:=Vs.keepE SA wA
 show Vs.At Tryz.prog Tryz.f3.ntmps (drawnG Tryz.prog) (.seq _ (Vs.dropS 9 Cd.lawNeedlessSteps)) _ aA wA
 refine At.seq (At.rg (hpS.rg hnt (pre:=[⟨some 40,.mv (.tmp 1),none⟩]) (post:=⟨some 41,.call (.func F.l_toCardS) ([40].map .tmp) [],none⟩::[⟨some 11,.mv (.tmp 41),none⟩]) (τ:=⟨[(40,.v a1),(0,.v a0),(1,.v a1),(2,.v (.int .i64 n)),(8,.v a6),(9,.v (.int .i64 0)),(10,.loc (.t 39 0) 0 fl.length)],[(.t 39 0,.arr 9 (E cS fl) false)]⟩) (fun p hp=>by
     simp only[List.mem_cons,List.not_mem_nil,or_false] at hp
     rcases hp with rfl
     · exact⟨fun r hr=>cS_flat r hr,rfl⟩) ?_ fun a2 w2 S2 p2 hp2=>hp2.rgcall hnt (ts:=[40]) (ys:=[.v a1]) (Vs.CodeIsR.has Cd.l_toCardS_k.o) rfl (fun i hi=>by match i,hi with|0,_=>rfl) (fun i hi=>by match i,hi with|0,_=>rfl) fun us hus hr=>?_))
 ·simp -dsimp only[go_sem]
  simp[Vs.LeL,Vs.look,Vs.hlook]
 obtain rfl:=Vs.us1 hus (Vs.rc_v (hr 0 Nat.zero_lt_one))
 have pA2:Vs.Past SA wA S2 w2:=p2
 refine(toCardS_dk l hk hp2.dom hp2.env (pA2.rcS r1)).mono ?_
 rintro e w3 ⟨v1,rfl,hg1,m1,hd1,hn1⟩
 refine⟨v1,rfl,?_⟩
 have hp3:=(hp2.grow hg1 (D:=m1.D) (fun b hb=>⟨hn1 b hb,hd1.lt b hb⟩) [(0,.v a0),(1,.v a1),(2,.v (.int .i64 n)),(8,.v a6),(9,.v (.int .i64 0)),(10,.loc (.t 39 0) 0 fl.length)] (fun p hp=>by
     simp only[List.mem_cons,List.not_mem_nil,or_false] at hp
     rcases hp with rfl|rfl|rfl|rfl|rfl|rfl<;>exact⟨rfl,.inl rfl⟩)).put (d:=41) (by rw[hnt,Cd.lawNeedlessSteps_k.n];omega) v1
 have pA3:Vs.Past SA wA (fun b=>S2 b∨m1.D b) w3:=pA2.trans (Vs.Past.grow hg1 hp2.dom)
 letI I3:=Vs.keepE (fun b=>S2 b∨m1.D b) w3
 refine hp3.rg (pre:=[⟨some 11,.mv (.tmp 41),none⟩]) (post:=[]) hnt (τ:=⟨[(11,.v v1),(0,.v a0),(1,.v a1),(2,.v (.int .i64 n)),(8,.v a6),(9,.v (.int .i64 0)),(10,.loc (.t 39 0) 0 fl.length)],[(.t 39 0,.arr 9 (E cS fl) false)]⟩) (fun p hp=>by
     simp only[List.mem_cons,List.not_mem_nil,or_false] at hp
     rcases hp with rfl
     · exact⟨fun r hr=>cS_flat r hr,rfl⟩) ?_ fun a4 w4 S4 p4 hp4=>RgL.nil ?_
 ·simp -dsimp only[go_sem]
  simp[Vs.LeL,Vs.look,Vs.hlook]
 have pA4:Vs.Past SA wA S4 w4:=pA3.trans p4
 have m14:∀b,m1.D b→S4 b:=fun b hb=>p4.sub b (.inr hb)
 have hd14:Vs.Dk w4 (l.map (E cI)) v1 m1:=hd1.past (fun b hb=>.inr hb) p4
 have m1A:∀b,m1.D b→¬SA b:=fun b hb hs=>by have:=hn1 b hb;have:=hdA b hs;have:=pA2.size;omega
 show Vs.At Tryz.prog Tryz.f3.ntmps (drawnG Tryz.prog) (Vs.dropS 9 Cd.lawNeedlessSteps) _ a4 w4
 refine (hp4.le (τ:=⟨[(0,.v a0),(1,.v a1),(2,.v (.int .i64 n)),(8,.v a6),(9,.v (.int .i64 0)),(10,.loc (.t 39 0) 0 fl.length),(11,.v v1)],[(.t 39 0,.arr 9 (E cS fl) false)]⟩) (by simp[Vs.LeL,Vs.look,Vs.hlook]) (fun p hp=>by
     simp only[List.mem_cons,List.not_mem_nil,or_false] at hp
     rcases hp with rfl
     · exact⟨fun r hr=>cS_flat r hr,rfl⟩)).go dM hnt 6 _ (τ:=⟨[(0,.v a0),(1,.v a1),(2,.v (.int .i64 n)),(8,.v a6),(9,.v (.int .i64 0)),(11,.v v1),(12,.loc (.t 46 0) 0 (ndL fl l n.toNat).length),(13,.v (.int .i64 0)),(14,.v (.int .i64 (1+9*fl.length:Nat)))],[(.t 39 0,.arr 9 (E cS (mkR (mS 1) fl fl.length)) false),(.t 46 0,.arr 1 (E cI (ndL fl l n.toNat)) false)]⟩) (X:=True) (E:=fun _ _=>False) (fun p hp=>by
     simp only[List.mem_cons,List.not_mem_nil,or_false] at hp
     rcases hp with rfl|rfl
     · exact⟨fun r hr=>cS_flat r hr,rfl⟩
     · exact⟨fun r hr=>cI_flat r hr,rfl⟩) (fun C hC=>(roC0 C fl l n hz hl hk he a0 a1 a6 v1 (fun S' w' he'=>Vs.keepE_known hp3.dom he' (pA3.rcS r0)) (fun S' w' he'=>Vs.keepE_known hp3.dom he' (pA3.rcS r1)) (fun S' w' he'=>Vs.keepE_known hp3.dom he' (pA3.rcS r6)) (fun S' w' he'=>Vs.keepE_known hp3.dom he' (by rw[←deckE];exact hd1.rd.mono (fun b hb=>.inr hb) fun _ _=>rfl)))) (fun i σ h=>h) (fun C a w hl hg=>hg.no.elim) fun a8 w8 S8 p8 hp8 _=>?_
 have pA8:Vs.Past SA wA S8 w8:=pA4.trans p8
 have m18:∀b,m1.D b→S8 b:=fun b hb=>p8.sub b (m14 b hb)
 have hd18:Vs.Dk w8 (l.map (E cI)) v1 m1:=hd14.past m14 p8
 have hS1:∀b,C1.S0 b→SA b:=fun b hb=>by rw[hS0] at hb;exact pA.sub b hb
 show Vs.At Tryz.prog Tryz.f3.ntmps (drawnG Tryz.prog) (.seq _ (Vs.dropS 16 Cd.lawNeedlessSteps)) _ a8 w8
 refine At.seq (At.rg (hp8.rg hnt (pre:=[⟨some 71,.mv (.tmp 11),none⟩,⟨some 72,.mv (.tmp 14),none⟩]) (post:=⟨some 73,.call (.func F.l_markCardS) ([71,72].map .tmp) [0],none⟩::[⟨some 14,.mv (.tmp 73),none⟩]) (τ:=⟨[(71,.v v1),(72,.v (.int .i64 (1+9*fl.length:Nat))),(0,.v a0),(1,.v a1),(2,.v (.int .i64 n)),(8,.v a6),(9,.v (.int .i64 0)),(12,.loc (.t 46 0) 0 (ndL fl l n.toNat).length),(13,.v (.int .i64 0))],[(.t 39 0,.arr 9 (E cS (mkR (mS 1) fl fl.length)) false),(.t 46 0,.arr 1 (E cI (ndL fl l n.toNat)) false)]⟩) (fun p hp=>by
     simp only[List.mem_cons,List.not_mem_nil,or_false] at hp
     rcases hp with rfl|rfl
     · exact⟨fun r hr=>cS_flat r hr,rfl⟩
     · exact⟨fun r hr=>cI_flat r hr,rfl⟩) ?_ fun a9 w9 S9 p9 hp9=>hp9.rgcall hnt (ts:=[71,72]) (ys:=[.v v1,.v (.int .i64 (1+9*fl.length:Nat))]) (Vs.CodeIsR.has Cd.l_markCardS_k.o) rfl (fun i hi=>by match i,hi with|0,_=>rfl|1,_=>rfl) (fun i hi=>by match i,hi with|0,_=>rfl|1,_=>rfl) fun us hus hr=>?_))
 ·simp -dsimp only[go_sem]
  simp[Vs.LeL,Vs.look,Vs.hlook]
 obtain rfl:=Vs.us2 hus (Vs.rc_v (hr 0 (by show 0<2;omega))) (Vs.rc_v (hr 1 (by show 1<2;omega)))
 have pA9:Vs.Past SA wA S9 w9:=pA8.trans p9
 have hd19:Vs.Dk w9 (l.map (E cI)) v1 m1:=hd18.past m18 p9
 have hdA9:∀b,SA b→b<w9.heap.size:=fun b hb=>Nat.lt_of_lt_of_le (hdA b hb) pA9.size
 refine(MK (1+9*fl.length) (by omega) l hk SA w9 v1 m1 hdA9 (EM _ pA9.old) m1A hd19).mono ?_
 rintro e w10 ⟨rfl,q1,q2,q3,_⟩
 refine⟨_,rfl,?_⟩
 have hge1:∀b,m1.D b→C1.w0.heap.size≤b∧S9 b:=fun b hb=>⟨by have:=hn1 b hb;have:=pA2.size;have:=hpA.size;omega,p9.sub b (m18 b hb)⟩
 have hK9:∀b,SA b→S9 b:=fun b hb=>pA9.sub b hb
 have hp10:=(hp9.marked q1 q2 q3 hge1 (K:=SA) hK9 hS1 [(0,.v a0),(1,.v a1),(2,.v (.int .i64 n)),(8,.v a6),(9,.v (.int .i64 0)),(12,.loc (.t 46 0) 0 (ndL fl l n.toNat).length),(13,.v (.int .i64 0))] (fun p hp=>by
     simp only[List.mem_cons,List.not_mem_nil,or_false] at hp
     rcases hp with rfl|rfl|rfl|rfl|rfl|rfl|rfl<;>exact⟨rfl,rfl⟩)).put (d:=73) (by rw[hnt,Cd.lawNeedlessSteps_k.n];omega) (.int .i64 (1+9*fl.length+totD l:Nat))
 have pA10:Vs.Past SA wA SA w10:=pA9.mark hp9.dom q1 q2 m1A fun _ h=>h
 have hdom10:∀b,SA b→b<w10.heap.size:=fun b hb=>Nat.lt_of_lt_of_le (hp9.dom b (hK9 b hb)) q1
 letI I10:=Vs.keepE SA w10
 refine hp10.rg (pre:=[⟨some 14,.mv (.tmp 73),none⟩]) (post:=[]) hnt (τ:=⟨[(0,.v a0),(1,.v a1),(2,.v (.int .i64 n)),(8,.v a6),(9,.v (.int .i64 0)),(12,.loc (.t 46 0) 0 (ndL fl l n.toNat).length),(13,.v (.int .i64 0)),(14,.v (.int .i64 (1+9*fl.length+totD l:Nat)))],[(.t 46 0,.arr 1 (E cI (ndL fl l n.toNat)) false)]⟩) (fun p hp=>by
     simp only[List.mem_cons,List.not_mem_nil,or_false] at hp
     rcases hp with rfl
     · exact⟨fun r hr=>cI_flat r hr,rfl⟩) ?_ fun a11 w11 S11 p11 hp11=>RgL.nil ?_
 ·simp -dsimp only[go_sem]
  simp[Vs.LeL,Vs.look,Vs.hlook]
 show Vs.At Tryz.prog Tryz.f3.ntmps (drawnG Tryz.prog) (Vs.dropS 16 Cd.lawNeedlessSteps) _ a11 w11
 exact hp11.fin dM hnt (fun C hC=>roE0 C fl l n hz hl hk he a0 a1 a6 _ (fun S' w' he'=>Vs.keepE_known hdom10 he' (pA10.rcS r0)) (fun S' w' he'=>Vs.keepE_known hdom10 he' (pA10.rcS r1)) (fun S' w' he'=>Vs.keepE_known hdom10 he' (pA10.rcS r6))) (fun i σ h=>h) (fun C a w hl hg=>⟨.inl rfl,Vs.law_end hl hM Cd.lawNeedlessSteps_k.r hg⟩)
attribute [local go_sem] List.length_nil in
theorem law_RO1 (fl:List Stp) (l:List (List Int)) (n:Int) (hs0:∀x,x∈fl→x.text.size<2 ^ 63) (hl0:fl.length<2 ^ 63) (gb:bigC l) (he:ndC fl l n≠0):Fz F.lawNeedlessSteps [.sl 9 (E cS fl),.sl 1 (E cC l),.v (.int .i64 n)] (.v (.bool true)):=by
 refine Vs.Fn.of_calls (Vs.CodeIsR.has Cd.lawNeedlessSteps_k.o) (by intro y hy;simp only[List.mem_cons,List.not_mem_nil,or_false] at hy;rcases hy with rfl|rfl|rfl<;>rfl) rfl fun S w vs hS he0 hvs hargs=>?_
 obtain⟨h1,h2,_⟩:=Cd.lawNeedlessSteps_k.o
 obtain⟨body,hb,hc⟩:=Option.bind_eq_some_iff.1 h2
 have hz0:(Tryz.f3.body.map (zB Tryz.f3.ntmps (drawnG Tryz.prog)))=some true:=by kernel_rfl
 rw[hb] at hz0
 refine Vs.Pt.calls (dr:=drawnG Tryz.prog) (ac:=Cd.lawNeedlessSteps) h1 hb hc (by simpa using hz0) (args:=[.sl 9 (E cS fl),.sl 1 (E cC l),.v (.int .i64 n)]) (by rw[Cd.lawNeedlessSteps_k.n];exact Nat.le_of_ble_eq_true rfl) hS he0 hvs hargs fun C1 a hnt hw0 hS0 hp=>?_
 have hM:=hp.nomut
 subst hw0
 have MK:=fun(k0:Nat) (hk0:k0≤2 ^ 60) (l:List (List Int)) (hk:smallC l) (S:Nat→Prop) (w:World) (v:Value) (m:Vs.Mem) hS he hno hd=>markCardS_dk (S:=S) (w:=w) (v:=v) (l:=l) (m:=m) k0 hk0 hk hS he hno hd
 refine hp.go dM hnt 8 _ (τ:=⟨[(0,.sl 9 (E cS fl)),(1,.sl 1 (E cC l)),(2,.v (.int .i64 n)),(8,.v (.slice none 0 0)),(9,.v (.int .i64 (ndC fl l n))),(10,.loc (.t 39 0) 0 fl.length)],[(.t 39 0,.arr 9 (E cS fl) false)]⟩) (E:=(fun e σ'=>match e with|.ret=>LeL σ' ⟨[(6,.v (.bool true))],[]⟩|.exit _=>False)) (fun p hp=>by
     simp only[List.mem_cons,List.not_mem_nil,or_false] at hp
     rcases hp with rfl
     · exact⟨fun r hr=>cS_flat r hr,rfl⟩) (fun C hC=>roA1 C fl l n hs0 hl0 gb he) (fun i σ h=>h) (fun C a w hl hg=>⟨.inl rfl,Vs.law_end hl hM Cd.lawNeedlessSteps_k.r hg⟩) fun aA wA SA pA hpA hX=>?_
 obtain⟨hz,hl,hk⟩:=hX
 have heA:=hpA.env
 have hdA:=hpA.dom
 have EM:=fun(w':World) (h:∀b,SA b→w'.heap[b]? = wA.heap[b]?)=>heA.mono (fun _ h=>h) h
 have r0:RC SA wA (.sl 9 (E cS fl)) (aA.tmps.getD 0 undef):=hpA.val (t:=0) rfl
 have r1:RC SA wA (.sl 1 (E cC l)) (aA.tmps.getD 1 undef):=hpA.val (t:=1) rfl
 have hpS:∃a0 a1,a0=aA.tmps.getD 0 undef∧a1=aA.tmps.getD 1 undef∧Pt (Vs.keepE SA wA) C1 (⟨[(0,.v a0),(1,.v a1),(2,.v (.int .i64 n)),(8,.v (.slice none 0 0)),(9,.v (.int .i64 (ndC fl l n))),(10,.loc (.t 39 0) 0 fl.length)],[(.t 39 0,.arr 9 (E cS fl) false)]⟩:St) aA wA SA:=
  ⟨_,_,rfl,rfl,hpA.set [(0,.v (aA.tmps.getD 0 undef)),(1,.v (aA.tmps.getD 1 undef)),(2,.v (.int .i64 n)),(8,.v (.slice none 0 0)),(9,.v (.int .i64 (ndC fl l n))),(10,.loc (.t 39 0) 0 fl.length)] (fun p hp=>by
    simp only[List.mem_cons,List.not_mem_nil,or_false] at hp
    rcases hp with rfl|rfl|rfl|rfl|rfl|rfl
    · exact .inr (.v _)
    · exact .inr (.v _)
    · exact .inl ⟨rfl,rfl⟩
    · exact .inl ⟨rfl,rfl⟩
    · exact .inl ⟨rfl,rfl⟩
    · exact .inl ⟨rfl,rfl⟩)⟩
 obtain⟨a0,a1,e0,e1,hpS⟩:=hpS
 rw[←e0] at r0
 rw[←e1] at r1
 letI IS:=Vs.keepE SA wA
 show Vs.At Tryz.prog Tryz.f3.ntmps (drawnG Tryz.prog) (.seq _ (Vs.dropS 9 Cd.lawNeedlessSteps)) _ aA wA
 refine At.seq (At.rg (hpS.rg hnt (pre:=[⟨some 40,.mv (.tmp 1),none⟩]) (post:=⟨some 41,.call (.func F.l_toCardS) ([40].map .tmp) [],none⟩::[⟨some 11,.mv (.tmp 41),none⟩]) (τ:=⟨[(40,.v a1),(0,.v a0),(1,.v a1),(2,.v (.int .i64 n)),(8,.v (.slice none 0 0)),(9,.v (.int .i64 (ndC fl l n))),(10,.loc (.t 39 0) 0 fl.length)],[(.t 39 0,.arr 9 (E cS fl) false)]⟩) (fun p hp=>by
     simp only[List.mem_cons,List.not_mem_nil,or_false] at hp
     rcases hp with rfl
     · exact⟨fun r hr=>cS_flat r hr,rfl⟩) ?_ fun a2 w2 S2 p2 hp2=>hp2.rgcall hnt (ts:=[40]) (ys:=[.v a1]) (Vs.CodeIsR.has Cd.l_toCardS_k.o) rfl (fun i hi=>by match i,hi with|0,_=>rfl) (fun i hi=>by match i,hi with|0,_=>rfl) fun us hus hr=>?_))
 ·simp -dsimp only[go_sem]
  simp[Vs.LeL,Vs.look,Vs.hlook]
 obtain rfl:=Vs.us1 hus (Vs.rc_v (hr 0 Nat.zero_lt_one))
 have pA2:Vs.Past SA wA S2 w2:=p2
 refine(toCardS_dk l hk hp2.dom hp2.env (pA2.rcS r1)).mono ?_
 rintro e w3 ⟨v1,rfl,hg1,m1,hd1,hn1⟩
 refine⟨v1,rfl,?_⟩
 have hp3:=(hp2.grow hg1 (D:=m1.D) (fun b hb=>⟨hn1 b hb,hd1.lt b hb⟩) [(0,.v a0),(1,.v a1),(2,.v (.int .i64 n)),(8,.v (.slice none 0 0)),(9,.v (.int .i64 (ndC fl l n))),(10,.loc (.t 39 0) 0 fl.length)] (fun p hp=>by
     simp only[List.mem_cons,List.not_mem_nil,or_false] at hp
     rcases hp with rfl|rfl|rfl|rfl|rfl|rfl<;>exact⟨rfl,.inl rfl⟩)).put (d:=41) (by rw[hnt,Cd.lawNeedlessSteps_k.n];omega) v1
 have pA3:Vs.Past SA wA (fun b=>S2 b∨m1.D b) w3:=pA2.trans (Vs.Past.grow hg1 hp2.dom)
 letI I3:=Vs.keepE (fun b=>S2 b∨m1.D b) w3
 refine hp3.rg (pre:=[⟨some 11,.mv (.tmp 41),none⟩]) (post:=[]) hnt (τ:=⟨[(11,.v v1),(0,.v a0),(1,.v a1),(2,.v (.int .i64 n)),(8,.v (.slice none 0 0)),(9,.v (.int .i64 (ndC fl l n))),(10,.loc (.t 39 0) 0 fl.length)],[(.t 39 0,.arr 9 (E cS fl) false)]⟩) (fun p hp=>by
     simp only[List.mem_cons,List.not_mem_nil,or_false] at hp
     rcases hp with rfl
     · exact⟨fun r hr=>cS_flat r hr,rfl⟩) ?_ fun a4 w4 S4 p4 hp4=>RgL.nil ?_
 ·simp -dsimp only[go_sem]
  simp[Vs.LeL,Vs.look,Vs.hlook]
 have pA4:Vs.Past SA wA S4 w4:=pA3.trans p4
 have m14:∀b,m1.D b→S4 b:=fun b hb=>p4.sub b (.inr hb)
 have hd14:Vs.Dk w4 (l.map (E cI)) v1 m1:=hd1.past (fun b hb=>.inr hb) p4
 have m1A:∀b,m1.D b→¬SA b:=fun b hb hs=>by have:=hn1 b hb;have:=hdA b hs;have:=pA2.size;omega
 show Vs.At Tryz.prog Tryz.f3.ntmps (drawnG Tryz.prog) (Vs.dropS 9 Cd.lawNeedlessSteps) _ a4 w4
 refine (hp4.le (τ:=⟨[(0,.v a0),(1,.v a1),(2,.v (.int .i64 n)),(8,.v (.slice none 0 0)),(9,.v (.int .i64 (ndC fl l n))),(10,.loc (.t 39 0) 0 fl.length),(11,.v v1)],[(.t 39 0,.arr 9 (E cS fl) false)]⟩) (by simp[Vs.LeL,Vs.look,Vs.hlook]) (fun p hp=>by
     simp only[List.mem_cons,List.not_mem_nil,or_false] at hp
     rcases hp with rfl
     · exact⟨fun r hr=>cS_flat r hr,rfl⟩)).go dM hnt 6 _ (τ:=⟨[(0,.v a0),(1,.v a1),(2,.v (.int .i64 n)),(8,.v (.slice none 0 0)),(9,.v (.int .i64 (ndC fl l n))),(11,.v v1),(12,.v (.slice none 0 0)),(13,.v (.int .i64 (ndC fl l n))),(14,.v (.int .i64 (1+9*fl.length:Nat)))],[(.t 39 0,.arr 9 (E cS (mkR (mS 1) fl fl.length)) false)]⟩) (X:=True) (E:=fun _ _=>False) (fun p hp=>by
     simp only[List.mem_cons,List.not_mem_nil,or_false] at hp
     rcases hp with rfl
     · exact⟨fun r hr=>cS_flat r hr,rfl⟩) (fun C hC=>(roC1 C fl l n hz hl hk he a0 a1 v1 (fun S' w' he'=>Vs.keepE_known hp3.dom he' (pA3.rcS r0)) (fun S' w' he'=>Vs.keepE_known hp3.dom he' (pA3.rcS r1)) (fun S' w' he'=>Vs.keepE_known hp3.dom he' (by rw[←deckE];exact hd1.rd.mono (fun b hb=>.inr hb) fun _ _=>rfl)))) (fun i σ h=>h) (fun C a w hl hg=>hg.no.elim) fun a8 w8 S8 p8 hp8 _=>?_
 have pA8:Vs.Past SA wA S8 w8:=pA4.trans p8
 have m18:∀b,m1.D b→S8 b:=fun b hb=>p8.sub b (m14 b hb)
 have hd18:Vs.Dk w8 (l.map (E cI)) v1 m1:=hd14.past m14 p8
 have hS1:∀b,C1.S0 b→SA b:=fun b hb=>by rw[hS0] at hb;exact pA.sub b hb
 show Vs.At Tryz.prog Tryz.f3.ntmps (drawnG Tryz.prog) (.seq _ (Vs.dropS 16 Cd.lawNeedlessSteps)) _ a8 w8
 refine At.seq (At.rg (hp8.rg hnt (pre:=[⟨some 71,.mv (.tmp 11),none⟩,⟨some 72,.mv (.tmp 14),none⟩]) (post:=⟨some 73,.call (.func F.l_markCardS) ([71,72].map .tmp) [0],none⟩::[⟨some 14,.mv (.tmp 73),none⟩]) (τ:=⟨[(71,.v v1),(72,.v (.int .i64 (1+9*fl.length:Nat))),(0,.v a0),(1,.v a1),(2,.v (.int .i64 n)),(8,.v (.slice none 0 0)),(9,.v (.int .i64 (ndC fl l n))),(12,.v (.slice none 0 0)),(13,.v (.int .i64 (ndC fl l n)))],[(.t 39 0,.arr 9 (E cS (mkR (mS 1) fl fl.length)) false)]⟩) (fun p hp=>by
     simp only[List.mem_cons,List.not_mem_nil,or_false] at hp
     rcases hp with rfl
     · exact⟨fun r hr=>cS_flat r hr,rfl⟩) ?_ fun a9 w9 S9 p9 hp9=>hp9.rgcall hnt (ts:=[71,72]) (ys:=[.v v1,.v (.int .i64 (1+9*fl.length:Nat))]) (Vs.CodeIsR.has Cd.l_markCardS_k.o) rfl (fun i hi=>by match i,hi with|0,_=>rfl|1,_=>rfl) (fun i hi=>by match i,hi with|0,_=>rfl|1,_=>rfl) fun us hus hr=>?_))
 ·simp -dsimp only[go_sem]
  simp[Vs.LeL,Vs.look,Vs.hlook]
 obtain rfl:=Vs.us2 hus (Vs.rc_v (hr 0 (by show 0<2;omega))) (Vs.rc_v (hr 1 (by show 1<2;omega)))
 have pA9:Vs.Past SA wA S9 w9:=pA8.trans p9
 have hd19:Vs.Dk w9 (l.map (E cI)) v1 m1:=hd18.past m18 p9
 have hdA9:∀b,SA b→b<w9.heap.size:=fun b hb=>Nat.lt_of_lt_of_le (hdA b hb) pA9.size
 refine(MK (1+9*fl.length) (by omega) l hk SA w9 v1 m1 hdA9 (EM _ pA9.old) m1A hd19).mono ?_
 rintro e w10 ⟨rfl,q1,q2,q3,_⟩
 refine⟨_,rfl,?_⟩
 have hge1:∀b,m1.D b→C1.w0.heap.size≤b∧S9 b:=fun b hb=>⟨by have:=hn1 b hb;have:=pA2.size;have:=hpA.size;omega,p9.sub b (m18 b hb)⟩
 have hK9:∀b,SA b→S9 b:=fun b hb=>pA9.sub b hb
 have hp10:=(hp9.marked q1 q2 q3 hge1 (K:=SA) hK9 hS1 [(0,.v a0),(1,.v a1),(2,.v (.int .i64 n)),(8,.v (.slice none 0 0)),(9,.v (.int .i64 (ndC fl l n))),(12,.v (.slice none 0 0)),(13,.v (.int .i64 (ndC fl l n)))] (fun p hp=>by
     simp only[List.mem_cons,List.not_mem_nil,or_false] at hp
     rcases hp with rfl|rfl|rfl|rfl|rfl|rfl|rfl<;>exact⟨rfl,rfl⟩)).put (d:=73) (by rw[hnt,Cd.lawNeedlessSteps_k.n];omega) (.int .i64 (1+9*fl.length+totD l:Nat))
 have pA10:Vs.Past SA wA SA w10:=pA9.mark hp9.dom q1 q2 m1A fun _ h=>h
 have hdom10:∀b,SA b→b<w10.heap.size:=fun b hb=>Nat.lt_of_lt_of_le (hp9.dom b (hK9 b hb)) q1
 letI I10:=Vs.keepE SA w10
 refine hp10.rg (pre:=[⟨some 14,.mv (.tmp 73),none⟩]) (post:=[]) hnt (τ:=⟨[(0,.v a0),(1,.v a1),(2,.v (.int .i64 n)),(8,.v (.slice none 0 0)),(9,.v (.int .i64 (ndC fl l n))),(12,.v (.slice none 0 0)),(13,.v (.int .i64 (ndC fl l n))),(14,.v (.int .i64 (1+9*fl.length+totD l:Nat)))],[]⟩) (fun p hp=>by cases hp) ?_ fun a11 w11 S11 p11 hp11=>RgL.nil ?_
 ·simp -dsimp only[go_sem]
  simp[Vs.LeL,Vs.look,Vs.hlook]
 show Vs.At Tryz.prog Tryz.f3.ntmps (drawnG Tryz.prog) (Vs.dropS 16 Cd.lawNeedlessSteps) _ a11 w11
 exact hp11.fin dM hnt (fun C hC=>roE1 C fl l n hz hl hk he a0 a1 _ (fun S' w' he'=>Vs.keepE_known hdom10 he' (pA10.rcS r0)) (fun S' w' he'=>Vs.keepE_known hdom10 he' (pA10.rcS r1))) (fun i σ h=>h) (fun C a w hl hg=>⟨.inl rfl,Vs.law_end hl hM Cd.lawNeedlessSteps_k.r hg⟩)
theorem law_NeedlessSteps (fl:List Stp) (l:List (List Int)) (n:Int) (hs0:∀x,x∈fl→x.text.size<2 ^ 63) (hl0:fl.length<2 ^ 63) (gb:bigC l):Fz F.lawNeedlessSteps [.sl 9 (E cS fl),.sl 1 (E cC l),.v (.int .i64 n)] (.v (.bool true)):=by
 by_cases he:ndC fl l n=0
 ·exact law_RO0 fl l n hs0 hl0 gb he
 ·exact law_RO1 fl l n hs0 hl0 gb he
end
end Go.Proofs.YthfnpdhpefialaaGreat
