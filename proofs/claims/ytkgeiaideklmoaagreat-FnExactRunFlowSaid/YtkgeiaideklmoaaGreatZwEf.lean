/- The law FnExactRunFlow, joined. -/
import Derived.Test.YtkgeiaideklmoaaGreatZwDy
import Derived.Test.YtkgeiaideklmoaaGreatZwZt
import Derived.Test.YtkgeiaideklmoaaGreatVtR
import Derived.Test.YtkgeiaideklmoaaGreatZuO
import Derived.Test.YtkgeiaideklmoaaGreatVuV
set_option linter.all false
set_option maxHeartbeats 8000000
namespace Go.Proofs.YtkgeiaideklmoaaGreat
open Go.Vs
section
variable [Vs.Envs]
attribute [local irreducible] Vs.Fn mkD dL mtx jR mkO rfO rfN rfK lL uO slW bK aO bL bM l03 chB rk cd3 chI stp aP
theorem aIC {l:List Stp}:∀r,r∈E cS l->fJ r=true:=λr F=>by
 obtain⟨x,_,rfl⟩:=Bq.1 F;rfl
set_option maxRecDepth 20000 in
theorem lwRfC {dr:Nat->Array Oper->Option (List Nat)} (C:Ctx) (o D:Off) (fl:List Stp) (hl:fl.length<=1048576) (O U:Int) (ho:dY o) (hD:dY D) (ta sa t0 Z tv sv L J:Sl) (Y x1:Value) (ka:∀S w,Vs.Env S w->RC S w (.agg (cO o)) (.agg #[slW ta,slW sa])) (kf:∀S w,Vs.Env S w->RC S w (.sl 9 (E cS fl)) Y) (k0:∀S w,Vs.Env S w->RC S w (.agg (cO D)) (.agg #[slW t0,slW Z])) (kx:∀S w,Vs.Env S w->RC S w (.agg (cO o)) (.agg #[slW tv,slW sv])) (k9:∀S w,Vs.Env S w->RC S w (.sl 9 (E cS fl)) x1) (kg:∀S w,Vs.Env S w->RC S w (.agg (cO D)) (.agg #[slW L,slW J])) :
  aDx Tryz.prog C dr 4 (kU 10 Cd.lawRunFlow) (fun σ'=>LeL σ' ⟨[pP 2,(1,.v Y),pP 6,(7,.v (.int .i64 O)),(8,.v (.int .i64 U)),pP 9,(10,.v x1),pP 11,(12,.v (.int .i64 O)),(13,.v (.int .i64 U)),(14,.v (.int .i64 1))],[(.t 11 0,vW L J),(.t 9 0,vW tv sv),(.t 6 0,vW t0 Z),(.t 2 0,vW ta sa)]⟩∧True) (λ_ _=>False) ⟨[pP 2,(1,.v Y),pP 6,(7,.v (.int .i64 O)),(8,.v (.int .i64 U)),pP 9,(10,.v x1),pP 11,(12,.v (.int .i64 O)),(13,.v (.int .i64 U))],[(.t 11 0,vW L J),(.t 9 0,vW tv sv),(.t 6 0,vW t0 Z),(.t 2 0,vW ta sa)]⟩:=by
 have EG:=Vs.Fn.knownR (aA3 D hD) (ys':=[.agg [.v (slW L),.v (slW J)],.agg [.v (slW t0),.v (slW Z)]]) rfl (λj I=>by
   match j,I with
   |0,_=>exact .inr ⟨rfl,λS w v F H=>by rw[gX H];exact kg S w F⟩
   |1,_=>exact .inr ⟨rfl,λS w v F H=>by rw[gX H];exact k0 S w F⟩)
 have EX:=Vs.Fn.knownR (aA3 o ho) (ys':=[.agg [.v (slW tv),.v (slW sv)],.agg (cO o)]) rfl (λj I=>by
   match j,I with
   |0,_=>exact .inr ⟨rfl,λS w v F H=>by rw[gX H];exact kx S w F⟩
   |1,_=>exact .inl rfl)
 have TO:=Vs.Fn.knownR (aCu o ho) (ys':=[.agg [.v (slW ta),.v (slW sa)]]) rfl (λj I=>by
   match j,I with
   |0,_=>exact .inr ⟨rfl,λS w v F H=>by rw[gX H];exact ka S w F⟩)
 have TF:=Vs.Fn.knownR (aEA fl hl) (ys':=[.v Y]) rfl (λj I=>by
   match j,I with
   |0,_=>exact .inr ⟨rfl,λS w v F H=>by rw[aCI H];exact kf S w F⟩)
 have ES:=Vs.Fn.knownR (aMI fl hl) (ys':=[.v x1,.sl 9 (E cS fl)]) rfl (λj I=>by
   match j,I with
   |0,_=>exact .inr ⟨rfl,λS w v F H=>by rw[aCI H];exact k9 S w F⟩
   |1,_=>exact .inl rfl)
 simp only[cO] at EX TO;have n1:(O != O)=false:=by simp
 have n2:(U != U)=false:=by simp
 unfold Cd.lawRunFlow;simp only[kU]
 repeat' first|simp -dsimp only[go_sem,Int.reduceBEq,Int.reduceBNe,cC,aH,Af,Ag,Al,Aq,Ae,Ai,Ac,Ak,Ab,Ah,Am,Au,Ap,Ao,AX,BH,Vs.Name.t.injEq,Aw,A9,Vs.Name.b.injEq,AJ,Bn,pP,vW,cD,cTs,cO,cS,AJ,Bn,aH,n1,n2]|apply Br.mk<;>intro h<;>try simp -dsimp only[h]|refine aB.c (by first|exact EG|exact EX|exact TO|exact TF|exact ES) ?_|refine aC ?_|fail
 all_goals first|(simp[Vs.LeL,Vs.look,aA];done)|exact⟨by simp[Vs.LeL,Vs.look,aA],trivial⟩|omega|(and_intros<;>first|trivial|omega|(simp[Vs.LeL,Vs.look,aA];done))
set_option maxRecDepth 20000 in
theorem lwRfD {dr:Nat->Array Oper->Option (List Nat)} (C:Ctx) (o D:Off) (fl:List Stp) (hl:fl.length<=1048576) (I J:Int) (ho:dY o) (hD:dY D) (ta sa O L tv sv H F:Sl) (U x1:Value) (ka:∀S w,Vs.Env S w->RC S w (.agg (cO o)) (.agg #[slW ta,slW sa])) (kf:∀S w,Vs.Env S w->RC S w (.sl 9 (E cS fl)) U) (k0:∀S w,Vs.Env S w->RC S w (.agg (cO D)) (.agg #[slW O,slW L])) (m:Nat) (kg:∀S w,Vs.Env S w->RC S w (.agg (cO D)) (.agg #[slW H,slW F])) :
  aDx Tryz.prog C dr 2 (kU 16 Cd.lawRunFlow) (fun σ'=>LeL σ' ⟨[pP 2,(1,.v U),pP 6,(7,.v (.int .i64 I)),(8,.v (.int .i64 J)),pP 11,(15,.v (.int .i64 1))],[(.t 11 0,vW H F),(.t 9 0,vW tv sv),(.t 6 0,vW O L),(.t 2 0,vW ta sa)]⟩∧True) (λ_ _=>False) ⟨[pP 2,(1,.v U),pP 6,(7,.v (.int .i64 I)),(8,.v (.int .i64 J)),pP 11,(12,.v (.int .i64 I)),(13,.v (.int .i64 J)),(14,.v (.int .i64 (m:Nat)))],[(.t 11 0,vW H F),(.t 9 0,vW tv sv),(.t 6 0,vW O L),(.t 2 0,vW ta sa)]⟩:=by
 have EG:=Vs.Fn.knownR (aA3 D hD) (ys':=[.agg [.v (slW H),.v (slW F)],.agg [.v (slW O),.v (slW L)]]) rfl (λj hj=>by
   match j,hj with
   |0,_=>exact .inr ⟨rfl,λS w v Y Z=>by rw[gX Z];exact kg S w Y⟩
   |1,_=>exact .inr ⟨rfl,λS w v Y Z=>by rw[gX Z];exact k0 S w Y⟩)
 have hm:decide ((m:Int)<0)=false:=AO (by omega);have n1:(I != I)=false:=by simp
 have n2:(J != J)=false:=by simp
 unfold Cd.lawRunFlow;simp only[kU]
 repeat' first|simp -dsimp only[go_sem,Int.reduceBEq,Int.reduceBNe,cC,aH,Af,Ag,Al,Aq,Ae,Ai,Ac,Ak,Ab,Ah,Am,Au,Ap,Ao,AX,BH,Vs.Name.t.injEq,Aw,A9,Vs.Name.b.injEq,AJ,Bn,pP,vW,cD,cTs,cO,cS,AJ,Bn,aH,n1,n2,hm]|apply Br.mk<;>intro h<;>try simp -dsimp only[h]|refine aB.c (by first|exact EG) ?_|refine aC ?_|fail
 all_goals first|(simp[Vs.LeL,Vs.look,aA];done)|exact⟨by simp[Vs.LeL,Vs.look,aA],trivial⟩|omega|(and_intros<;>first|trivial|omega|(simp[Vs.LeL,Vs.look,aA];done))
set_option maxRecDepth 20000 in
theorem lwRfE {dr:Nat->Array Oper->Option (List Nat)} (C:Ctx) (o D:Off) (fl:List Stp) (hl:fl.length<=1048576) (Y Z:Int) (ho:dY o) (hD:dY D) (ta sa t0 s0 tv sv O L:Sl) (f1 x1:Value) (ka:∀S w,Vs.Env S w->RC S w (.agg (cO o)) (.agg #[slW ta,slW sa])) (kf:∀S w,Vs.Env S w->RC S w (.sl 9 (E cS fl)) f1) (k0:∀S w,Vs.Env S w->RC S w (.agg (cO D)) (.agg #[slW t0,slW s0])) (hk:1+jR D<=900000000) (U:Fz F.gV [.agg (cO o),.sl 9 (E cS fl)] (.tup [.agg (cO D),.v (.int .i64 Y),.v (.int .i64 Z)])) (kg:∀S w,Vs.Env S w->RC S w (.agg (cO (mkO 1 D))) (.agg #[slW O,slW L])) :
  wpc Tryz.prog C dr (kU 19 Cd.lawRunFlow) (λ_=>False) (λe σ'=>match e with|.ret=>LeL σ' ⟨[(4,.v (.bool true))],[]⟩|.exit _=>False) ⟨[pP 2,(1,.v f1),pP 6,(7,.v (.int .i64 Y)),(8,.v (.int .i64 Z)),pP 11,(15,.v (.int .i64 (1+jR D:Nat)))],[(.t 11 0,vW O L),(.t 9 0,vW tv sv),(.t 6 0,vW t0 s0),(.t 2 0,vW ta sa)]⟩:=by
 have HO:=Vs.Fn.knownR (aHh D hD (k0:=1) (by omega) hk) (ys':=[.agg [.v (slW O),.v (slW L)],.v (.int .i64 ((1:Nat):Int))]) rfl (λj I=>by
   match j,I with
   |0,_=>exact .inr ⟨rfl,λS w v H J=>by rw[gX J];exact kg S w H⟩
   |1,_=>exact .inl rfl)
 have EO:=Vs.Fn.knownR (aA3 D hD) (ys':=[.agg (cO D),.agg [.v (slW t0),.v (slW s0)]]) rfl (λj I=>by
   match j,I with
   |0,_=>exact .inl rfl
   |1,_=>exact .inr ⟨rfl,λS w v H J=>by rw[gX J];exact k0 S w H⟩)
 have TO:=Vs.Fn.knownR (aCu o ho) (ys':=[.agg [.v (slW ta),.v (slW sa)]]) rfl (λj I=>by
   match j,I with
   |0,_=>exact .inr ⟨rfl,λS w v H J=>by rw[gX J];exact ka S w H⟩)
 have TF:=Vs.Fn.knownR (aEA fl hl) (ys':=[.v f1]) rfl (λj I=>by
   match j,I with
   |0,_=>exact .inr ⟨rfl,λS w v H J=>by rw[aCI J];exact kf S w H⟩)
 have ha:decide (((1+jR D:Nat):Int)<0)=false:=AO (by omega);have hb:(((1+jR D:Nat):Int) != ((1+jR D:Nat):Int))=false:=by simp
 simp only[cO] at EO TO U;have n1:(Y != Y)=false:=by simp
 have n2:(Z != Z)=false:=by simp
 unfold Cd.lawRunFlow;simp only[kU]
 repeat' first|simp -dsimp only[go_sem,Int.reduceBEq,Int.reduceBNe,cC,aH,Af,Ag,Al,Aq,Ae,Ai,Ac,Ak,Ab,Ah,Am,Au,Ap,Ao,AX,BH,Vs.Name.t.injEq,Aw,A9,Vs.Name.b.injEq,AJ,Bn,pP,vW,cD,cTs,cO,cS,AJ,Bn,aH,n1,n2,ha,hb]|apply Br.mk<;>intro h<;>try simp -dsimp only[h]|refine aB.c (by first|exact HO|exact EO|exact TO|exact TF|exact U) ?_|refine aC ?_|fail
 all_goals first|(simp[Vs.LeL,Vs.look,aA];done)|exact⟨by simp[Vs.LeL,Vs.look,aA],trivial⟩|omega|(and_intros<;>first|trivial|omega|(simp[Vs.LeL,Vs.look,aA];done))
end
section
variable [Vs.Envs]
attribute [local irreducible] Vs.Fn mkD dL mtx jR mkO rfO rfN rfK lL uO bK aO bL bM l03 chB rk cd3 chI stp aP
theorem aLH {S:Nat->Prop}{w:World}{k I:Nat}{r J:List (List AV)}{u:Value} (h:RC S w (.agg [.sl k r,.sl I J]) u):∃t s:Sl,u=.agg #[slW t,slW s]:=by
 cases h with
 | agg _ us hl hr =>
  obtain⟨t,H⟩:=xR (hr 0 (by simp));obtain⟨s,F⟩:=xR (hr 1 (by simp));exact⟨t,s,Vs.us2 (by simpa using hl.symm) H F ▸ rfl⟩
theorem aLO {S:Nat->Prop}{w:World}{k F:Nat}{r H:List (List AV)}{vs:List Value} (J:vs.length=2) (h:∀j,j<2->RC S w (([.sl k r,.sl F H]:List AV).getD j .junk) (vs.getD j undef)):∃t s:Sl,vs=[slW t,slW s]∧RC S w (.agg [.sl k r,.sl F H]) (.agg #[slW t,slW s]):=by
 match vs,J with
 | [a,b],_ =>
  obtain⟨t,rfl⟩:∃t,a=slW t:=xR (h 0 (by omega));obtain⟨s,rfl⟩:∃t,b=slW t:=xR (h 1 (by omega))
  exact ⟨t,s,rfl,.agg _ _ rfl λj I=>by
    match j,I with
    |0,_=>exact h 0 (by omega)
    |1,_=>exact h 1 (by omega)⟩
theorem aNJ {S:Nat->Prop}{w:World} (x y c d:Value):RC S w (.tup [.agg [.v x,.v y],.v c,.v d]) (.tuple #[.agg #[x,y],c,d]):=.tup _ _ rfl λj F=>by
 match j,F with
 |0,_=>exact aDX x y
 |1,_=>exact .v _
 |2,_=>exact .v _
attribute [local go_sem] Bh Bz Int.reduceBEq Int.reduceBNe cC aH Af Ag Al Aq Ae Ai Ac Ak Ab Ah Am Au Ap Ao AX BH Vs.Name.t.injEq Aw A9 Vs.Name.b.injEq AJ Bn pP vW cD cTs AJ Bn aH in
set_option maxRecDepth 20000 in
theorem law_RunFlow (o:Off) (fl:List Stp) (H:aLB o) (qn:∀x,x∈fl->x.text.size<2 ^ 63) (qk:fl.length<2 ^ 63):Fz F.lawRunFlow [.agg (cO o),.sl 9 (E cS fl)] (.v (.bool true)):=by
 by_cases h1:lL o 1048576<0
 .have e1:decide (lL o 1048576<0)=true:=A7 h1;refine fn0 Cd.lawRunFlow_k λX=>?_;simp -dsimp only[go_sem,cO,cS,e1];refine aB.flat (aCw o 1048576 H (by omega)) rfl ?_;simp -dsimp only[go_sem,cO,cS,e1]
  first|done|simp
 obtain⟨hn,ho⟩:=aGL H (by omega) (by omega) (by omega:0<=lL o 1048576);have j7:=aIT H (by omega) (by omega) (by omega:0<=lL o 1048576);have e1:decide (lL o 1048576<0)=false:=AO h1;by_cases h2:szL uO fl (lL o 1048576)<0
 .have e2:decide (szL uO fl (lL o 1048576)<0)=true:=A7 h2;refine fn0 Cd.lawRunFlow_k λX=>?_;simp -dsimp only[go_sem,cO,cS,e1];refine aB.flat (aCw o 1048576 H (by omega)) rfl ?_;simp -dsimp only[go_sem,cO,cS,e1];refine aB.flat (aHQ fl _ qn qk (by omega)) rfl ?_;simp -dsimp only[go_sem,cO,cS,e1,e2]
  first|done|simp
 have e2:decide (szL uO fl (lL o 1048576)<0)=false:=AO h2;have hl:fl.length<=1048576:=by have:=aHR qk (by omega) h2;omega
 have hz:∀x,x∈fl->x.text.size<=1048576:=by
  intro x hx;obtain⟨m,h3,h4,h5⟩:=aLU (λx hx n h0 hn h=>aFl (qn x hx) h0 hn h) qk (by omega) h2 x hx;have:=(aEB (qn x hx) h3 h4 (by unfold uO at h5;exact h5)).2;omega
 obtain⟨hD,jo⟩:=aI1 (fl:=fl) ho;refine Vs.Fn.of_calls (jZ Cd.lawRunFlow_k.o) (by intro y hy;simp only[Ap,Ao,AX] at hy;rcases hy with rfl|rfl<;>rfl) rfl λS w vs hS he z6 qz=>?_;obtain⟨g1,g2,_⟩:=Cd.lawRunFlow_k.o;obtain⟨ym,jm,hc⟩:=AY.1 g2;have j9:(Tryz.f5.body.map (zB Tryz.f5.ntmps (aW Tryz.prog)))=some true:=by kernel_rfl
 rw[jm] at j9;refine Vs.Pt.calls (dr:=aW Tryz.prog) (ac:=Cd.lawRunFlow) g1 jm hc (by simpa using j9) (args:=[.agg (cO o),.sl 9 (E cS fl)]) (by rw[Cd.lawRunFlow_k.n];exact Bc rfl) hS he z6 qz λC1 a I z7 zz L=>?_;have hM:=L.nomut;subst z7;have r0:RC S C1.w0 (.agg (cO o)) (a.tmps.getD 0 undef):=L.val (t:=0) rfl;have rf:RC S C1.w0 (.sl 9 (E cS fl)) (a.tmps.getD 1 undef):=L.val (t:=1) rfl;obtain⟨Z,Y,j8⟩:=aLH r0;obtain⟨O,jp⟩:∃v,v=a.tmps.getD 1 undef:=⟨_,rfl⟩
 have j4:=L.set [(0,.agg [.v (slW Z),.v (slW Y)]),(1,.v O)] (λp L=>by
   simp only[Ap,Ao,AX] at L;rcases L with rfl|rfl
   . right
     show RC S C1.w0 _ (a.tmps.getD 0 undef)
     rw[j8];exact aDX _ _
   . right
     show RC S C1.w0 _ (a.tmps.getD 1 undef)
     rw[←jp];exact .v _)
 rw[j8] at r0;rw[←jp] at rf;clear L;have jn:=j4.dom
 letI IA:=Vs.keepE S C1.w0
 have za:∀S' w,Vs.Env S' w->RC S' w (.agg (cO o)) (.agg #[slW Z,slW Y]):=λS' w he=>bO jn he r0;have zb:∀S' w,Vs.Env S' w->RC S' w (.sl 9 (E cS fl)) O:=λS' w he=>bO jn he rf
 have ZO:=Vs.Fn.knownR (aCw o 1048576 H (by omega)) (ys':=[.agg [.v (slW Z),.v (slW Y)],.v (.int .i64 1048576)]) rfl (λj hj=>by
   match j,hj with
   |0,_=>exact .inr ⟨rfl,λS w v he hv=>by rw[gX hv];exact za S w he⟩
   |1,_=>exact .inl rfl)
 have TO:=Vs.Fn.knownR (aCu o ho) (ys':=[.agg [.v (slW Z),.v (slW Y)]]) rfl (λj hj=>by
   match j,hj with
   |0,_=>exact .inr ⟨rfl,λS w v he hv=>by rw[gX hv];exact za S w he⟩)
 have ZF:=Vs.Fn.knownR (aHQ fl (lL o 1048576) qn qk (by omega)) (ys':=[.v O,.v (.int .i64 (lL o 1048576))]) rfl (λj hj=>by
   match j,hj with
   |0,_=>exact .inr ⟨rfl,λS w v he hv=>by rw[aCI hv];exact zb S w he⟩
   |1,_=>exact .inl rfl)
 have TF:=Vs.Fn.knownR (aEA fl hl) (ys':=[.v O]) rfl (λj hj=>by
   match j,hj with
   |0,_=>exact .inr ⟨rfl,λS w v he hv=>by rw[aCI hv];exact zb S w he⟩)
 have SD:=aEG fl hz hl o ho;simp only[cO] at TO SD
 refine j4.goV dM I 7 _ (E:=λ_ _=>False) (m:=.t 6 0) (cs:=[.sl 1 (E cD (rfO fl o).trays),.sl 1 (E cTs (rfO fl o).totals)]) (s:=[pP 2,(1,.v O),pP 6,(7,.v (.int .i64 (rfN fl o:Nat))),(8,.v (.int .i64 (rfK fl o)))]) (h0:=[(.t 2 0,vW Z Y)]) (λy hy=>by
     simp only[Ap,Ao,AX] at hy;rcases hy with rfl|rfl<;>rfl) (λp L=>by rw[Au.1 L];exact⟨rfl,rfl⟩) (λC hC=>?_) (λi σ h=>h) (λC a w hl hg=>hg.no.elim) λvs a1 w1 U z5 p1 jc hv=>?_
 .unfold Cd.lawRunFlow
  repeat' first|simp -dsimp only[go_sem,cO,cS,e1,e2]|apply Br.mk<;>intro h<;>try simp -dsimp only[h]|refine aB.c (by first|exact ZO|exact TO|exact ZF|exact TF|exact SD) ?_|refine aC ?_|fail
  all_goals first|(simp[Vs.LeL,Vs.look,aA];done)|exact⟨by simp[Vs.LeL,Vs.look,aA],trivial⟩|omega|(and_intros<;>first|trivial|omega|(simp[Vs.LeL,Vs.look,aA];done))
 obtain⟨t0,s0,rfl,r6⟩:=aLO z5 hv;have qp:=p1.rcS r0;have qq:=p1.rcS rf;have qi:=jc.dom;have qy:∀b,C1.S0 b->U b:=λb H=>by rw[zz] at H;exact p1.sub b H
 have y1:=jc.size;show Vs.At Tryz.prog Tryz.f5.ntmps (aW Tryz.prog) (.seq _ (kU 8 Cd.lawRunFlow)) _ a1 w1
 refine At.seq (At.rg (jc.rgN I 1 (τ:=⟨[(39,.agg [.v (slW Z),.v (slW Y)]),pP 2,(1,.v O),pP 6,(7,.v (.int .i64 (rfN fl o:Nat))),(8,.v (.int .i64 (rfK fl o)))],[(.t 6 0,vW t0 s0),(.t 2 0,vW Z Y)]⟩) ?_ λa2 w2 S2 p2 qb=>qb.rgc I (ts:=[39]) (ys:=[.agg [.v (slW Z),.v (slW Y)]]) (jZ Cd.l_toOffice_k.o) rfl rfl λus ha hr=>?_))
 .simp -dsimp only[go_sem,cO,cS]
  first|(simp[Vs.LeL,Vs.look,aA];done)|(and_intros<;>first|omega|rfl|(simp[Vs.LeL,Vs.look,aA];done))
 have je:Vs.Past U w1 S2 w2:=p2
 refine (aFh o ho qb.dom qb.env ha (λj hj=>by
   match j,hj with
   | 0,_ =>
     show RC S2 w2 _ (us.getD 0 undef)
     rw[gX (hr 0 (by simp))];exact je.rcS qp)).mono ?_
 rintro e w3 ⟨tv,sv,rfl,hg3,m1,hom3,hn1⟩;refine⟨_,rfl,?_⟩
 have z0:=(qb.grow hg3 (D:=m1.D) (λb H=>⟨hn1 b H,hom3.lt b H⟩) [pP 2,(1,.v O),pP 6,(7,.v (.int .i64 (rfN fl o:Nat))),(8,.v (.int .i64 (rfK fl o)))] (λp L=>by
     simp only[Ap,Ao,AX] at L;rcases L with rfl|rfl|rfl|rfl|rfl<;>exact⟨rfl,.inl rfl⟩)).putR (d:=40) (by rw[I,Cd.lawRunFlow_k.n];omega) (r:=.agg [.v (slW tv),.v (slW sv)]) (aDX _ _)
 letI I3:=Vs.keepE (λb=>S2 b∨m1.D b) w3
 refine z0.rgN I 2 (τ:=⟨[pP 2,(1,.v O),pP 6,(7,.v (.int .i64 (rfN fl o:Nat))),(8,.v (.int .i64 (rfK fl o))),pP 9],[(.t 9 0,vW tv sv),(.t 6 0,vW t0 s0),(.t 2 0,vW Z Y)]⟩) ?_ λa4 w4 S4 p4 z1=>RgL.nil ?_
 .simp only[vW,slW];simp -dsimp only[go_sem,cO,cS]
  first|(simp[Vs.LeL,Vs.look,aA];done)|(and_intros<;>first|omega|rfl|(simp[Vs.LeL,Vs.look,aA];done))
 have zo:Vs.Past U w1 S4 w4:=(je.trans (Vs.Past.grow hg3 qb.dom)).trans p4;have jd:∀b,m1.D b->S4 b:=λb H=>p4.sub b (.inr H);have js:=hom3.past (S:=λb=>S2 b∨m1.D b) (λb H=>.inr H) p4;have y2:=qb.size;have zd:∀b,m1.D b->¬U b:=λb H hs=>by have:=hn1 b H;have:=qi b hs;have:=je.size;omega
 show Vs.At Tryz.prog Tryz.f5.ntmps (aW Tryz.prog) (.seq _ (kU 9 Cd.lawRunFlow)) _ a4 w4
 refine At.seq (At.rg (z1.rgN I 1 (τ:=⟨[(41,.v O),pP 2,(1,.v O),pP 6,(7,.v (.int .i64 (rfN fl o:Nat))),(8,.v (.int .i64 (rfK fl o))),pP 9],[(.t 9 0,vW tv sv),(.t 6 0,vW t0 s0),(.t 2 0,vW Z Y)]⟩) ?_ λa5 w5 S5 p5 qe=>qe.rgc I (ts:=[41]) (ys:=[.v O]) (jZ Cd.l_toStepS_k.o) rfl rfl λus ha hr=>?_))
 .simp -dsimp only[go_sem,cO,cS]
  first|(simp[Vs.LeL,Vs.look,aA];done)|(and_intros<;>first|omega|rfl|(simp[Vs.LeL,Vs.look,aA];done))
 obtain rfl:=Vs.us1 ha (aCI (hr 0 Dj));have qj:=qe.dom;have zi:Vs.Past U w1 S5 w5:=zo.trans p5
 refine (aEm (aJS fl hl) (aH _).symm aIC qj qe.env rfl (λj hj=>by
   match j,hj with
   |0,_=>exact zi.rcS qq)).mono ?_
 rintro e w6 ⟨x1,xb,xc,rfl,hg6,how6,hx6⟩;refine⟨_,rfl,?_⟩
 have z2:=(qe.grow hg6 (D:=λb=>xb=some b) hx6 [pP 2,(1,.v O),pP 6,(7,.v (.int .i64 (rfN fl o:Nat))),(8,.v (.int .i64 (rfK fl o))),pP 9] (λp L=>by
     simp only[Ap,Ao,AX] at L;rcases L with rfl|rfl|rfl|rfl|rfl|rfl<;>exact⟨rfl,.inl rfl⟩)).put (d:=42) (by rw[I,Cd.lawRunFlow_k.n];omega) x1
 letI I6:=Vs.keepE (λb=>S5 b∨xb=some b) w6
 refine z2.rgN I 1 (τ:=⟨[pP 2,(1,.v O),pP 6,(7,.v (.int .i64 (rfN fl o:Nat))),(8,.v (.int .i64 (rfK fl o))),pP 9,(10,.v x1)],[(.t 9 0,vW tv sv),(.t 6 0,vW t0 s0),(.t 2 0,vW Z Y)]⟩) ?_ λa7 w7 S7 p7 z3=>RgL.nil ?_
 .simp -dsimp only[go_sem,cO,cS]
  first|(simp[Vs.LeL,Vs.look,aA];done)|(and_intros<;>first|omega|rfl|(simp[Vs.LeL,Vs.look,aA];done))
 have jg:Vs.Past S4 w4 S7 w7:=(Vs.Past.trans p5 (Vs.Past.grow hg6 qj)).trans p7;have yd:Vs.Past U w1 S7 w7:=zo.trans jg;have jt:=js.past jd jg;have zc:∀b,m1.D b->S7 b:=λb H=>jg.sub b (jd b H);have x7:∀b,xb=some b->S7 b:=λb H=>p7.sub b (.inr H);have ju:=how6.mono (λ_ _ h=>h) λb H=>p7.old b (.inr H);have xA:∀b,xb=some b->¬U b:=λb H hs=>by have:=(hx6 b H).1;have:=qj b (zi.sub b hs);omega
 have yk:∀b,xb=some b->¬m1.D b:=λb H hm=>by have:=(hx6 b H).1;have:=qj b (p5.sub b (jd b hm));omega
 have y3:=qe.size;show Vs.At Tryz.prog Tryz.f5.ntmps (aW Tryz.prog) (.seq _ (kU 10 Cd.lawRunFlow)) _ a7 w7
 refine At.seq (At.rg (z3.rgN I 2 (τ:=⟨[(44,.agg [.v (slW tv),.v (slW sv)]),(45,.v x1),pP 2,(1,.v O),pP 6,(7,.v (.int .i64 (rfN fl o:Nat))),(8,.v (.int .i64 (rfK fl o))),pP 9,(10,.v x1)],[(.t 9 0,vW tv sv),(.t 6 0,vW t0 s0),(.t 2 0,vW Z Y)]⟩) ?_ λa8 w8 S8 p8 qf=>qf.rgc I (ts:=[44,45]) (ys:=[.agg [.v (slW tv),.v (slW sv)],.v x1]) (jZ Cd.i_RunFlow_k.o) rfl rfl λus ha hr=>?_))
 .simp -dsimp only[go_sem,cO,cS]
  first|(simp[Vs.LeL,Vs.look,aA];done)|(and_intros<;>first|omega|rfl|(simp[Vs.LeL,Vs.look,aA];done))
 have qa:=qf.dom;have zl:=yd.trans p8;have qt:=jt.past zc p8;have qv:=ju.mono (λ_ _ h=>h) λb H=>p8.old b (x7 b H);have qc:∀b,m1.D b->S8 b:=λb H=>p8.sub b (zc b H);have x8:∀b,xb=some b->S8 b:=λb H=>p8.sub b (x7 b H)
 refine (aBZ fl hz hl o ho qa qf.env ha (λj hj=>by
   match j,hj with
   | 0,_ =>
     show RC S8 w8 _ (us.getD 0 undef)
     rw[gX (hr 0 (by simp))];exact qt.rd.mono qc λ_ _=>rfl
   | 1,_ =>
     show RC S8 w8 _ (us.getD 1 undef)
     rw[aCI (hr 1 (by simp))];exact qv.rc.mono x8 λ_ _=>rfl)).mono ?_
 rintro e w9 ⟨tv2,sv2,rfl,hg9,m2,hom9,hn2⟩;refine⟨_,rfl,?_⟩
 have z4:=(qf.grow hg9 (D:=m2.D) (λb H=>⟨hn2 b H,hom9.lt b H⟩) [pP 2,(1,.v O),pP 6,(7,.v (.int .i64 (rfN fl o:Nat))),(8,.v (.int .i64 (rfK fl o))),pP 9,(10,.v x1)] (λp L=>by
     simp only[Ap,Ao,AX] at L;rcases L with rfl|rfl|rfl|rfl|rfl|rfl|rfl<;>exact⟨rfl,.inl rfl⟩)).putR (d:=46) (by rw[I,Cd.lawRunFlow_k.n];omega) (r:=.tup [.agg [.v (slW tv2),.v (slW sv2)],.v (.int .i64 (rfN fl o:Nat)),.v (.int .i64 (rfK fl o))]) (aNJ _ _ _ _)
 have jh:Vs.Past S8 w8 (λb=>S8 b∨m2.D b) w9:=Vs.Past.grow hg9 qa;have qo:Vs.Past U w1 (λb=>S8 b∨m2.D b) w9:=zl.trans jh;have hk:∀b,(S8 b∨m2.D b)->b<w9.heap.size:=λb H=>H.elim (λh=>AZ (qa b h) hg9.size) (hom9.lt b);have ze:∀b,m2.D b->¬U b:=λb H hs=>by have:=hn2 b H;have:=qa b (zl.sub b hs);omega
 have z9:∀b,m2.D b->¬m1.D b:=λb H hs=>by have:=hn2 b H;have:=qa b (qc b hs);omega
 have yl:∀b,xb=some b->¬m2.D b:=λb H hs=>by have:=hn2 b hs;have:=qa b (x8 b H);omega
 have qu:=qt.past qc jh;have qw:=qv.mono (λ_ _ h=>h) λb H=>jh.old b (x8 b H);have y4:=qf.size
 letI I9:=Vs.keepE (λb=>S8 b∨m2.D b) w9
 refine z4.rgN I 8 (τ:=⟨[pP 2,(1,.v O),pP 6,(7,.v (.int .i64 (rfN fl o:Nat))),(8,.v (.int .i64 (rfK fl o))),pP 9,(10,.v x1),pP 11,(12,.v (.int .i64 (rfN fl o:Nat))),(13,.v (.int .i64 (rfK fl o)))],[(.t 11 0,vW tv2 sv2),(.t 9 0,vW tv sv),(.t 6 0,vW t0 s0),(.t 2 0,vW Z Y)]⟩) ?_ λzt ye yq ya jv=>RgL.nil ?_
 .simp only[vW,slW];simp -dsimp only[go_sem,cO,cS]
  first|(simp[Vs.LeL,Vs.look,aA];done)|(and_intros<;>first|omega|rfl|(simp[Vs.LeL,Vs.look,aA];done))
 show Vs.At Tryz.prog Tryz.f5.ntmps (aW Tryz.prog) (kU 10 Cd.lawRunFlow) _ zt ye
 refine jv.go dM I 4 _ (τ:=⟨[pP 2,(1,.v O),pP 6,(7,.v (.int .i64 (rfN fl o:Nat))),(8,.v (.int .i64 (rfK fl o))),pP 9,(10,.v x1),pP 11,(12,.v (.int .i64 (rfN fl o:Nat))),(13,.v (.int .i64 (rfK fl o))),(14,.v (.int .i64 1))],[(.t 11 0,vW tv2 sv2),(.t 9 0,vW tv sv),(.t 6 0,vW t0 s0),(.t 2 0,vW Z Y)]⟩) (X:=True) (E:=λ_ _=>False) (λp L=>by
     simp only[Ap,Ao,AX] at L;rcases L with rfl|rfl|rfl|rfl<;>exact⟨rfl,rfl⟩) (λC hC=>lwRfC C o (rfO fl o) fl hl (rfN fl o:Nat) (rfK fl o) ho hD Z Y t0 s0 tv sv tv2 sv2 O x1 (λS' w' J=>bO hk J (qo.rcS qp)) (λS' w' J=>bO hk J (qo.rcS qq)) (λS' w' J=>bO hk J (qo.rcS r6)) (λS' w' J=>bO hk J (qu.rd.mono (λb H=>.inl (qc b H)) λ_ _=>rfl)) (λS' w' J=>bO hk J (qw.rc.mono (λb H=>.inl (x8 b H)) λ_ _=>rfl)) (λS' w' J=>bO hk J (hom9.rd.mono (λb H=>.inr H) λ_ _=>rfl))) (λi σ h=>h) (λC a w hl hg=>hg.no.elim) λzu yf yr yb jw _=>?_
 have zp:=ya.trans yb;show Vs.At Tryz.prog Tryz.f5.ntmps (aW Tryz.prog) (.seq _ (kU 15 Cd.lawRunFlow)) _ zu yf
 refine At.seq (At.rg (jw.rgN I 2 (τ:=⟨[(74,.agg [.v (slW tv),.v (slW sv)]),(75,.v (.int .i64 ((1:Nat):Int))),pP 2,(1,.v O),pP 6,(7,.v (.int .i64 (rfN fl o:Nat))),(8,.v (.int .i64 (rfK fl o))),(10,.v x1),pP 11,(12,.v (.int .i64 (rfN fl o:Nat))),(13,.v (.int .i64 (rfK fl o)))],[(.t 11 0,vW tv2 sv2),(.t 9 0,vW tv sv),(.t 6 0,vW t0 s0),(.t 2 0,vW Z Y)]⟩) ?_ λyy ji jl zh h8=>h8.rgc I (ts:=[74,75]) (ys:=[.agg [.v (slW tv),.v (slW sv)],.v (.int .i64 ((1:Nat):Int))]) (jZ Cd.l_markOffice_k.o) rfl rfl λus ha hr=>?_))
 .simp -dsimp only[go_sem,cO,cS]
  first|(simp[Vs.LeL,Vs.look,aA];done)|(and_intros<;>first|omega|rfl|(simp[Vs.LeL,Vs.look,aA];done))
 obtain rfl:=Vs.us2 ha (gX (hr 0 (by show 0<2;omega))) (aCI (hr 1 (by show 1<2;omega)));have hh:=zp.trans zh;have qg:=qo.trans hh;have q0:OfM ji o (slW tv) (slW sv) m1:=qu.past (λb H=>.inl (qc b H)) hh;refine(@zW ⟨[]⟩ o ho tv sv m1 1 (by omega) j7 U ji (λb H=>AZ (qi b H) qg.size) (λp L=>by cases L) zd q0).mono ?_;rintro e jj ⟨rfl,q1,q2,q3,_⟩;refine⟨_,rfl,?_⟩;have jq:∀b,m1.D b->C1.w0.heap.size<=b∧jl b:=λb H=>⟨by have:=hn1 b H;omega,hh.sub b (.inl (qc b H))⟩;have qs:∀b,(U b∨m2.D b∨xb=some b)->jl b:=λb H=>H.elim (qg.sub b) λh=>h.elim (λh=>hh.sub b (.inr h)) λh=>hh.sub b (.inl (x8 b h))
 have jx:=(h8.marked q1 q2 q3 jq (K:=λb=>U b∨m2.D b∨xb=some b) qs (λb H=>.inl (qy b H)) [pP 2,(1,.v O),pP 6,(7,.v (.int .i64 (rfN fl o:Nat))),(8,.v (.int .i64 (rfK fl o))),(10,.v x1),pP 11,(12,.v (.int .i64 (rfN fl o:Nat))),(13,.v (.int .i64 (rfK fl o)))] (λp L=>by
     simp only[Ap,Ao,AX] at L;rcases L with rfl|rfl|rfl|rfl|rfl|rfl|rfl|rfl|rfl<;>exact⟨rfl,rfl⟩)).put (d:=76) (by rw[I,Cd.lawRunFlow_k.n];omega) (.int .i64 (1+jR o:Nat))
 have zf:Vs.Past U w1 (λb=>U b∨m2.D b∨xb=some b) jj:=qg.mark h8.dom q1 q2 zd λ_ h=>.inl h;have h6:OfM ji (rfO fl o) (slW tv2) (slW sv2) m2:=hom9.past (S:=λb=>S8 b∨m2.D b) (λb H=>.inr H) hh;have ql:OfM jj (rfO fl o) (slW tv2) (slW sv2) m2:=h6.same q1 λb H=>q2 b (h6.lt b H) (z9 b H);have ja:=(qw.mono (λ_ _ h=>h) λb H=>hh.old b (.inl (x8 b H))).mono (λ_ _ h=>h) λb H=>q2 b (h8.dom b (qs b (.inr (.inr H)))) (yk b H)
 letI yn:=Vs.keepE (λb=>U b∨m2.D b∨xb=some b) jj
 refine jx.rgN I 1 (τ:=⟨[pP 2,(1,.v O),pP 6,(7,.v (.int .i64 (rfN fl o:Nat))),(8,.v (.int .i64 (rfK fl o))),(10,.v x1),pP 11,(12,.v (.int .i64 (rfN fl o:Nat))),(13,.v (.int .i64 (rfK fl o))),(14,.v (.int .i64 (1+jR o:Nat)))],[(.t 11 0,vW tv2 sv2),(.t 9 0,vW tv sv),(.t 6 0,vW t0 s0),(.t 2 0,vW Z Y)]⟩) ?_ λzv yg yt yc jy=>RgL.nil ?_
 .simp -dsimp only[go_sem,cO,cS]
  first|(simp[Vs.LeL,Vs.look,aA];done)|(and_intros<;>first|omega|rfl|(simp[Vs.LeL,Vs.look,aA];done))
 show Vs.At Tryz.prog Tryz.f5.ntmps (aW Tryz.prog) (.seq _ (kU 16 Cd.lawRunFlow)) _ zv yg
 refine At.seq (At.rg (jy.rgN I 2 (τ:=⟨[(77,.v x1),(78,.v (.int .i64 (1+jR o:Nat))),pP 2,(1,.v O),pP 6,(7,.v (.int .i64 (rfN fl o:Nat))),(8,.v (.int .i64 (rfK fl o))),pP 11,(12,.v (.int .i64 (rfN fl o:Nat))),(13,.v (.int .i64 (rfK fl o)))],[(.t 11 0,vW tv2 sv2),(.t 9 0,vW tv sv),(.t 6 0,vW t0 s0),(.t 2 0,vW Z Y)]⟩) ?_ λyz zq yu zj qd=>qd.rgc I (ts:=[77,78]) (ys:=[.v x1,.v (.int .i64 (1+jR o:Nat))]) (jZ Cd.l_markStepS_k.o) rfl rfl λus ha hr=>?_))
 .simp -dsimp only[go_sem,cO,cS]
  first|(simp[Vs.LeL,Vs.look,aA];done)|(and_intros<;>first|omega|rfl|(simp[Vs.LeL,Vs.look,aA];done))
 obtain rfl:=Vs.us2 ha (aCI (hr 0 (by show 0<2;omega))) (aCI (hr 1 (by show 1<2;omega)));have hd:=yc.trans zj;have zg:=zf.trans hd;have jb:=ja.mono (λ_ _ h=>h) λb H=>hd.old b (.inr (.inr H));have MS:=@aJe ⟨[]⟩ fl (1+jR o) hl (by omega) j7;rw[show fl.length=(E cS fl).length from(aH _).symm] at MS;refine(@aBC ⟨[]⟩ Tryz.prog zq (λ_=>False) _ _ _ _ _ _ MS aIC xb xc x1 jb (λb H=>H.elim) (λp L=>by cases L)).mono ?_;rintro e qr ⟨rfl,q4,q5,q6,_⟩;rw[aH];refine⟨_,rfl,?_⟩
 have jz:=(qd.marked (D:=λb=>xb=some b) q4 q5 q6 (λb H=>⟨by have:=(hx6 b H).1;omega,hd.sub b (.inr (.inr H))⟩) (K:=λb=>U b∨m2.D b) (λb H=>hd.sub b (H.elim .inl λh=>.inr (.inl h))) (λb H=>.inl (qy b H)) [pP 2,(1,.v O),pP 6,(7,.v (.int .i64 (rfN fl o:Nat))),(8,.v (.int .i64 (rfK fl o))),pP 11,(12,.v (.int .i64 (rfN fl o:Nat))),(13,.v (.int .i64 (rfK fl o)))] (λp L=>by
     simp only[Ap,Ao,AX] at L;rcases L with rfl|rfl|rfl|rfl|rfl|rfl|rfl|rfl<;>exact⟨rfl,rfl⟩)).put (d:=79) (by rw[I,Cd.lawRunFlow_k.n];omega) (.int .i64 (1+jR o+9*fl.length:Nat))
 have hw:Vs.Past U w1 (λb=>U b∨m2.D b) qr:=zg.mark qd.dom q4 q5 xA λ_ h=>.inl h;have h7:OfM zq (rfO fl o) (slW tv2) (slW sv2) m2:=ql.past (S:=λb=>U b∨m2.D b∨xb=some b) (λb H=>.inr (.inl H)) hd;have hu:OfM qr (rfO fl o) (slW tv2) (slW sv2) m2:=h7.same q4 λb H=>q5 b (h7.lt b H) λh=>yl b h H;have hq:∀b,(U b∨m2.D b)->b<qr.heap.size:=λb H=>H.elim (λh=>AZ (qi b h) hw.size) (hu.lt b)
 letI yo:=Vs.keepE (λb=>U b∨m2.D b) qr
 refine jz.rgN I 1 (τ:=⟨[pP 2,(1,.v O),pP 6,(7,.v (.int .i64 (rfN fl o:Nat))),(8,.v (.int .i64 (rfK fl o))),pP 11,(12,.v (.int .i64 (rfN fl o:Nat))),(13,.v (.int .i64 (rfK fl o))),(14,.v (.int .i64 (1+jR o+9*fl.length:Nat)))],[(.t 11 0,vW tv2 sv2),(.t 9 0,vW tv sv),(.t 6 0,vW t0 s0),(.t 2 0,vW Z Y)]⟩) ?_ λzw yh yv zk j0=>RgL.nil ?_
 .simp -dsimp only[go_sem,cO,cS]
  first|(simp[Vs.LeL,Vs.look,aA];done)|(and_intros<;>first|omega|rfl|(simp[Vs.LeL,Vs.look,aA];done))
 show Vs.At Tryz.prog Tryz.f5.ntmps (aW Tryz.prog) (kU 16 Cd.lawRunFlow) _ zw yh
 refine j0.go dM I 2 _ (τ:=⟨[pP 2,(1,.v O),pP 6,(7,.v (.int .i64 (rfN fl o:Nat))),(8,.v (.int .i64 (rfK fl o))),pP 11,(15,.v (.int .i64 1))],[(.t 11 0,vW tv2 sv2),(.t 9 0,vW tv sv),(.t 6 0,vW t0 s0),(.t 2 0,vW Z Y)]⟩) (X:=True) (E:=λ_ _=>False) (λp L=>by
     simp only[Ap,Ao,AX] at L;rcases L with rfl|rfl|rfl|rfl<;>exact⟨rfl,rfl⟩) (λC hC=>lwRfD C o (rfO fl o) fl hl (rfN fl o:Nat) (rfK fl o) ho hD Z Y t0 s0 tv sv tv2 sv2 O x1 (λS' w' J=>bO hq J (hw.rcS qp)) (λS' w' J=>bO hq J (hw.rcS qq)) (λS' w' J=>bO hq J (hw.rcS r6)) (1+jR o+9*fl.length) (λS' w' J=>bO hq J (hu.rd.mono (λb H=>.inr H) λ_ _=>rfl))) (λi σ h=>h) (λC a w hl hg=>hg.no.elim) λzx yi yw zm j1 _=>?_
 have jf:=zk.trans zm;show Vs.At Tryz.prog Tryz.f5.ntmps (aW Tryz.prog) (.seq _ (kU 19 Cd.lawRunFlow)) _ zx yi
 refine At.seq (At.rg (j1.rgN I 2 (τ:=⟨[(98,.agg [.v (slW tv2),.v (slW sv2)]),(99,.v (.int .i64 ((1:Nat):Int))),pP 2,(1,.v O),pP 6,(7,.v (.int .i64 (rfN fl o:Nat))),(8,.v (.int .i64 (rfK fl o))),pP 11],[(.t 11 0,vW tv2 sv2),(.t 9 0,vW tv sv),(.t 6 0,vW t0 s0),(.t 2 0,vW Z Y)]⟩) ?_ λy0 zr zs zn h9=>h9.rgc I (ts:=[98,99]) (ys:=[.agg [.v (slW tv2),.v (slW sv2)],.v (.int .i64 ((1:Nat):Int))]) (jZ Cd.l_markOffice_k.o) rfl rfl λus ha hr=>?_))
 .simp -dsimp only[go_sem,cO,cS]
  first|(simp[Vs.LeL,Vs.look,aA];done)|(and_intros<;>first|omega|rfl|(simp[Vs.LeL,Vs.look,aA];done))
 obtain rfl:=Vs.us2 ha (gX (hr 0 (by show 0<2;omega))) (aCI (hr 1 (by show 1<2;omega)));have hf:=jf.trans zn;have qx:=hw.trans hf;have qm:OfM zr (rfO fl o) (slW tv2) (slW sv2) m2:=hu.past (S:=λb=>U b∨m2.D b) (λb H=>.inr H) hf;refine(@zW ⟨[]⟩ (rfO fl o) hD tv2 sv2 m2 1 (by omega) jo U zr (λb H=>AZ (qi b H) qx.size) (λp L=>by cases L) ze qm).mono ?_;rintro e jk ⟨rfl,q7,q8,q9,hom20⟩;refine⟨_,rfl,?_⟩;have jr:∀b,m2.D b->C1.w0.heap.size<=b∧zs b:=λb H=>⟨by have:=hn2 b H;omega,hf.sub b (.inr H)⟩
 have j2:=(h9.marked q7 q8 q9 jr (K:=λb=>U b∨m2.D b) (λb H=>hf.sub b H) (λb H=>.inl (qy b H)) [pP 2,(1,.v O),pP 6,(7,.v (.int .i64 (rfN fl o:Nat))),(8,.v (.int .i64 (rfK fl o))),pP 11] (λp L=>by
     simp only[Ap,Ao,AX] at L;rcases L with rfl|rfl|rfl|rfl|rfl|rfl<;>exact⟨rfl,rfl⟩)).put (d:=100) (by rw[I,Cd.lawRunFlow_k.n];omega) (.int .i64 (1+jR (rfO fl o):Nat))
 have qh:Vs.Past U w1 (λb=>U b∨m2.D b) jk:=qx.mark h9.dom q7 q8 ze λ_ h=>.inl h;have ht:∀b,(U b∨m2.D b)->b<jk.heap.size:=λb H=>AZ (h9.dom b (hf.sub b H)) q7
 letI yp:=Vs.keepE (λb=>U b∨m2.D b) jk
 refine j2.rgN I 1 (τ:=⟨[pP 2,(1,.v O),pP 6,(7,.v (.int .i64 (rfN fl o:Nat))),(8,.v (.int .i64 (rfK fl o))),pP 11,(15,.v (.int .i64 (1+jR (rfO fl o):Nat)))],[(.t 11 0,vW tv2 sv2),(.t 9 0,vW tv sv),(.t 6 0,vW t0 s0),(.t 2 0,vW Z Y)]⟩) ?_ λzy yj yx y6 j3=>RgL.nil ?_
 .simp -dsimp only[go_sem,cO,cS]
  first|(simp[Vs.LeL,Vs.look,aA];done)|(and_intros<;>first|omega|rfl|(simp[Vs.LeL,Vs.look,aA];done))
 show Vs.At Tryz.prog Tryz.f5.ntmps (aW Tryz.prog) (kU 19 Cd.lawRunFlow) _ zy yj
 exact j3.fin dM I (λC hC=>lwRfE C o (rfO fl o) fl hl (rfN fl o:Nat) (rfK fl o) ho hD Z Y t0 s0 tv sv tv2 sv2 O x1 (λS' w' J=>bO ht J (qh.rcS qp)) (λS' w' J=>bO ht J (qh.rcS qq)) (λS' w' J=>bO ht J (qh.rcS r6)) jo (aE1 fl hz hl o ho) (λS' w' J=>bO ht J (hom20.rd.mono (λb H=>.inr H) λ_ _=>rfl))) (λi σ h=>h) (λC a w hl hg=>⟨.inl rfl,aMr hl hM Cd.lawRunFlow_k.r hg⟩)
end
end Go.Proofs.YtkgeiaideklmoaaGreat
