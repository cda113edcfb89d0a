/- The law FnControls. -/
import Derived.Test.YtklmdppgonhflaaGreatDoorXwBg
import Derived.Test.YtklmdppgonhflaaGreatDoorVuY
import Derived.Test.YtklmdppgonhflaaGreatDoorXwBb
import Derived.Test.YtklmdppgonhflaaGreatDoorVsI
import Derived.Test.YtklmdppgonhflaaGreatDoorXwJe
import Derived.Test.YtklmdppgonhflaaGreatDoorXwJa
import Derived.Test.YtklmdppgonhflaaGreatDoorXwJb
import Derived.Test.YtklmdppgonhflaaGreatDoorXwJd
import Derived.Test.YtklmdppgonhflaaGreatDoorXwYc
import Derived.Test.YtklmdppgonhflaaGreatDoorXwD
set_option linter.all false
set_option maxHeartbeats 8000000
namespace Go.Proofs.YtklmdppgonhflaaGreatDoor
open Go.Vs
section
variable [Vs.Envs]
attribute [local irreducible] Vs.Fn nxV nxS pkV pkS pt crd gG dtF jD run wO
attribute [local go_sem] Int.reduceBEq Int.reduceBNe cC cO cS cFd aH Af Ag Ao Aq Ae Aj Ad Al Ac Ai Ap Av Am Ak AR BQ Vs.Name.t.injEq Ar AY Vs.Name.b.injEq aT aU bF Be BF BG roV in
theorem aGD (l:List Int) (x:Sr) (hl:byt l) (hp:x.p<=500):∃o z,okO 5 o∧z.p<=x.p+600∧Vs.Fn Tryz.prog F.pR [sB l x] [.ptr (.b 0) 0 0] (.agg [.loc (.b 1) 0 o.trays.length,roT o]) [some (sB l z),some (.arr 1 (E cD o.trays) false)]:=by
 obtain⟨d,y1,Z,hc,hf,DD⟩:=aIB l x hl 6 (by omega) (by omega);obtain⟨G,z,ha,hd,hz,J⟩:=aLS l y1 hl (by omega);have M:=aGM Z (by omega);have O:=aOg (w:=5) (by omega) M;have hb:bO d:=nN (w:=5) (by omega) M;have LN:=aOu d hb;have V:=aOA 4 (G.length:Nat);obtain⟨n,hn⟩:∃n:Nat,(if(4:Int)<(G.length:Nat) then(4:Int) else(G.length:Nat))=n:=⟨min 4 G.length,by split<;>omega⟩;rw[hn] at V;have he:n<=G.length:=by split at hn<;>omega
 have I:=aM4 (O0 d) 5 O rfl (G.take n) (λs hs=>by have:=ha s (CE hs);omega) (by rw[BM];omega);have et:E cS (G.take n)=(E cS G).take n:=by simp[E,CG]
 rw[et] at I;have U:=aKI (G.take n) (O0 d) O;generalize run (O0 d) (G.take n)=R at *
 refine⟨R.1,z,U.1,by omega,?_⟩;have Y:(O0 d).trays=T0 d:=rfl;rw[Y] at I;have H:(E cS G).length=G.length:=aH _;by_cases h0:R.1.totals.length=0
 .have e:=aCi h0;rw[e];rw[e] at I;refine fn1 Cd.s_l15Draw_k [.b 0,.t 18 0] [sB l z,.arr 1 (E cD R.1.trays) false] λX=>?_;unfold Cd.pR
  repeat' first|simp -dsimp only[go_sem,sB,e,H]|apply Br.mk<;>intro h<;>try simp -dsimp only[h]|refine aA.bor (by first|exact DD|exact J) rfl ?_|refine aA.ownL (by first|exact I) rfl ?_|refine aA.c (by first|exact LN|exact V) ?_|refine aC ?_|refine aC9 ?_|fail
  all_goals first|omega|exact⟨_,_,rfl,rfl⟩
 .have e:=aCh h0;rw[e];rw[e] at I;refine fn1 Cd.s_l15Draw_k [.b 0,.t 18 0] [sB l z,.arr 1 (E cD R.1.trays) false] λX=>?_;unfold Cd.pR
  repeat' first|simp -dsimp only[go_sem,sB,e,H]|apply Br.mk<;>intro h<;>try simp -dsimp only[h]|refine aA.bor (by first|exact DD|exact J) rfl ?_|refine aA.ownL (by first|exact I) rfl ?_|refine aA.c (by first|exact LN|exact V) ?_|refine aC ?_|refine aC9 ?_|fail
  all_goals first|omega|exact⟨_,_,rfl,rfl⟩
end
section
variable [Vs.Envs]
attribute [local irreducible] Vs.Fn nxV nxS pkV pkS pt crd gG dtF jD run wO
open Go.Vs.Q in
def CdV.oM:aD:=s [o 2 (.alloc [.v (.slice none 0 0),.v (.slice none 0 0)])] [0,2]<|s [m 4 0,o 5 (.call (.func F.pR) [4] [0]),o 3 (.alloc [.v (.slice none 0 0),.v (.slice none 0 0)]),⟨none,.store 2 3 5,none⟩] [0,2,3]<|.seq (s [m 6 0,o 7 (.call (.func F.aF) [6,(k 20)] [0])]
 [0,2,3,7]<|.block 0 (s [en 9 7 0,m 8 9] [0,2,3,7,8]<|.cond 8 (.region [fa 10 0 3,lf 11 1 10,o 12 (.slc 1 11 none (some (k 5))),fa 13 0 3,⟨none,.store 1 13 12,none⟩] [2,3] []) (s [en 15 7 1,m 14 15] [0,2,3,7,14]<|.cond 14 (.region [fa 16 0 3,lf 17 1 16,m 18 0,o 19 (.call (.func F.aF)
 [18,(k 6)] [0]),m 20 0,o 21 (.call (.func F.j4) [20] [0]),ix 22 1 17 19,⟨none,.store 1 22 21,none⟩] [2,3] [3000000]) (s [en 24 7 2,m 23 24] [0,2,3,23]<|.cond 23 (.region [m 25 0,o 26 (.call (.func F.aF) [25,(k 2)] [0]),o 27 (.bin .add (k 20) 26),o 28 (.mk 1 24 [.v
 (.slice none 0 0)] 27),fa 29 1 3,⟨none,.store 1 29 28,none⟩] [2,3] []) .skip))))<|s [lt 30 2 3,⟨none,.store 2 2 30,none⟩] [2]<|.ret
theorem CdV.l15Bent_rs:Tryz.f28.results.toList=[.cell 2 27]:=rfl
theorem CdV.l15Bent_nt:Tryz.f28.ntmps=31:=rfl
theorem CdV.l15Bent_ok:xQ Tryz.prog [([[],[0],[],[2],[],[4,3],[1,3,5],[6]],[0,2,4])] 28 Tryz.f28 CdV.oM:=⟨Tryz.func28,by kernel_rfl,by decide +kernel⟩
theorem aMI {S:Nat->Prop}{w:World}{x y F G:AV}{v:Value} (h:RC S w (.agg [x,y]) v) (H:∀u,RC S w x u->RC S w F u) (h2:∀u,RC S w y u->RC S w G u):RC S w (.agg [F,G]) v:=by
 cases h with
 | agg _ us hl hr =>
  refine .agg _ us hl λj I=>?_
  match j,I with
  |0,_=>exact H _ (hr 0 (by simp))
  |1,_=>exact h2 _ (hr 1 (by simp))
theorem aMK {S:Nat->Prop}{w:World}{k:Nat}{v:Value} (h:RC S w (.v (.slice none 0 0)) v):RC S w (.sl k []) v:=by
 rw[dD (ρ:=λ_=>none) (κ:=λ_=>0) (h:=λ_=>none) (.clo h)];exact .sl k [] none 0 0 0 (λ_=>undef) (by simp) (by simp) (by simp) (by simp) (by simp) ⟨by simp,by decide⟩
def aMk (l:List Int):Prop:=∀y:Sr,y.p<=1500->∃(d:List (List Int)) (z:Sr),bO d∧z.p<=y.p+700∧Vs.Fn Tryz.prog F.j4 [sB l y] [.ptr (.b 0) 0 0] (.sl 1 (E cC d)) [some (sB l z)]
theorem aHk {o:Off}{S:Nat->Prop}{w:World}{v:Value} (h:RC S w (.agg [.sl 1 (E cD o.trays),roT o]) v):RC S w (.agg (cO o)) v:=
 RV.closed (aOd (ρ:=λ_=>none) (κ:=λ_=>0) (hh:=λ_=>none) (.clo h)) rfl
attribute [local go_sem] Int.reduceBEq Int.reduceBNe cC cS cFd aH Af Ag Ao Aq Ae Aj Ad Al Ac Ai Ap Av Am Ak AR BQ Vs.Name.t.injEq Ar AY Vs.Name.b.injEq aT aU bF Be BF BG roV in
theorem oM (l:List Int) (x:Sr) (hl:byt l) (HB:aMk l) (hp:x.p<=500):∃o z,kP o∧z.p<=x.p+1400∧Vs.Fn Tryz.prog F.aEo [sB l x] [.ptr (.b 0) 0 0] (.agg (cO o)) [some (sB l z)]:=by
 obtain⟨o,y1,ho,hb,Y⟩:=aGD l x hl hp;have Z:=iC ho;have h6:=ho.2.1;have G:(E cD o.trays).length=6:=by rw[aH];exact h6
 have I:(E cD o.trays).take 6=E cD o.trays:=Ah (by omega);rw[h6] at Y;have P2:=pick l y1 hl 20 (by omega);have v2:=aZ hl y1 (n:=20) (by omega);have q2:=aO l y1 20;generalize pkV l y1 20=r2 at *
 generalize pkS l y1 20=y2 at *
 by_cases h0:r2=0
 .have H:(r2==0)=true:=BO.2 h0;refine⟨⟨o.trays.take 5,o.totals⟩,y2,⟨⟨by have:=Z.1.1;simp;omega,λd hd=>Z.1.2 d (CE hd)⟩,Z.2⟩,by omega,?_⟩;refine Vs.Fn.asB (r:=.agg [.sl 1 (E cD (o.trays.take 5)),roT o]) ?_ (by unfold roT;split<;>rfl) λS w v h=>aHk (o:=⟨o.trays.take 5,o.totals⟩) h;rw[show E cD (o.trays.take 5)=(E cD o.trays).take 5 by simp[E,CG]];by_cases h0:o.totals.length=0
  .have e:=aCi h0;rw[e] at Y
   try rw[e]
   refine CdV.l15Bent_ok.fn Tryz.mixed (hin:=[sB l x]) _ _ [.b 0] [sB l y2] CdV.l15Bent_nt CdV.l15Bent_rs rfl (by simp) rfl (by simp) λX=>?_;unfold CdV.oM;simp -dsimp only[go_sem,cO,sB,H,G]
   repeat' (first
     |(refine RgK.mk rfl ?_;simp -dsimp only[go_sem,cO,sB,H,G])
     |(refine RgK.ord Tryz.mixed [[],[0],[],[2],[],[4,3],[1,3,5],[6]] [0,2,4] rfl rfl (by decide) (T0:=[1,3,5,6,7]) rfl (n:=5) rfl rfl ?_;simp -dsimp only[go_sem,vcF,pv,vcO,Bt,BI,Option.isSome_some,cO,sB,H,G])
     |(refine OrK.yes rfl ?_ ?_<;>try simp -dsimp only[go_sem,vcO,cO,sB,H,G])
     |refine OrK.no rfl ?_
     |exact OrK.nil
     |(refine Br.mk (λh=>?_) (λh=>?_)<;>simp -dsimp only[go_sem,h,cO,sB,H,G])
     |(refine aA.bor (by first|exact Y|exact P2) rfl ?_;simp -dsimp only[go_sem,cO,sB,H,G])
     |(refine aC9 ?_;try simp -dsimp only[go_sem,cO,sB,H,G])
     |fail)
   all_goals first|omega|exact⟨_,_,rfl,rfl⟩
  .have e:=aCh h0;rw[e] at Y
   try rw[e]
   refine CdV.l15Bent_ok.fn Tryz.mixed (hin:=[sB l x]) _ _ [.b 0] [sB l y2] CdV.l15Bent_nt CdV.l15Bent_rs rfl (by simp) rfl (by simp) λX=>?_;unfold CdV.oM;simp -dsimp only[go_sem,cO,sB,H,G]
   repeat' (first
     |(refine RgK.mk rfl ?_;simp -dsimp only[go_sem,cO,sB,H,G])
     |(refine RgK.ord Tryz.mixed [[],[0],[],[2],[],[4,3],[1,3,5],[6]] [0,2,4] rfl rfl (by decide) (T0:=[1,3,5,6,7]) rfl (n:=5) rfl rfl ?_;simp -dsimp only[go_sem,vcF,pv,vcO,Bt,BI,Option.isSome_some,cO,sB,H,G])
     |(refine OrK.yes rfl ?_ ?_<;>try simp -dsimp only[go_sem,vcO,cO,sB,H,G])
     |refine OrK.no rfl ?_
     |exact OrK.nil
     |(refine Br.mk (λh=>?_) (λh=>?_)<;>simp -dsimp only[go_sem,h,cO,sB,H,G])
     |(refine aA.bor (by first|exact Y|exact P2) rfl ?_;simp -dsimp only[go_sem,cO,sB,H,G])
     |(refine aC9 ?_;try simp -dsimp only[go_sem,cO,sB,H,G])
     |fail)
   all_goals first|omega|exact⟨_,_,rfl,rfl⟩
 have H:(r2==0)=false:=AB.2 h0;by_cases h1:r2=1
 .have J:(r2==1)=true:=BO.2 h1;have P3:=pick l y2 hl 6 (by omega);have v3:=aZ hl y2 (n:=6) (by omega);have q3:=aO l y2 6;generalize pkV l y2 6=r3 at *
  generalize pkS l y2 6=y3 at *
  obtain⟨m,hm⟩:∃m:Nat,r3=m:=⟨r3.toNat,by omega⟩;subst hm;obtain⟨d,z,hd,hz,ha⟩:=HB y3 (by omega);refine⟨⟨o.trays.set m d,o.totals⟩,z,⟨⟨by have:=Z.1.1;simp;omega,λc hc=>(List.mem_or_eq_of_mem_set hc).elim (Z.1.2 c) λh=>h ▸ hd⟩,Z.2⟩,by omega,?_⟩;refine Vs.Fn.asB (r:=.agg [.sl 1 (E cD (o.trays.set m d)),roT o]) ?_ (by unfold roT;split<;>rfl) λS w v h=>aHk (o:=⟨o.trays.set m d,o.totals⟩) h;obtain⟨t0,hg⟩:∃t,(E cD o.trays).getD m []=[t]:=⟨_,(aW (show m<o.trays.length by omega)).trans rfl⟩;have U:((E cD o.trays).set m [.sl 1 (E cC d)]).take 6=E cD (o.trays.set m d):=by rw[Ah (by rw[Ap];omega)];simp[E,Dc,cD]
  by_cases h0:o.totals.length=0
  .have e:=aCi h0;rw[e] at Y
   try rw[e]
   refine CdV.l15Bent_ok.fn Tryz.mixed (hin:=[sB l x]) _ _ [.b 0] [sB l z] CdV.l15Bent_nt CdV.l15Bent_rs rfl (by simp) rfl (by simp) λX=>?_;unfold CdV.oM;simp -dsimp only[go_sem,cO,sB,H,J,G,hg,U,Cf]
   repeat' (first
     |(refine RgK.mk rfl ?_;simp -dsimp only[go_sem,cO,sB,H,J,G,hg,U,Cf])
     |(refine RgK.ord Tryz.mixed [[],[0],[],[2],[],[4,3],[1,3,5],[6]] [0,2,4] rfl rfl (by decide) (T0:=[1,3,5,6,7]) rfl (n:=5) rfl rfl ?_;simp -dsimp only[go_sem,vcF,pv,vcO,Bt,BI,Option.isSome_some,cO,sB,H,J,G,hg,U,Cf])
     |(refine OrK.yes rfl ?_ ?_<;>try simp -dsimp only[go_sem,vcO,cO,sB,H,J,G,hg,U,Cf])
     |refine OrK.no rfl ?_
     |exact OrK.nil
     |(refine Br.mk (λh=>?_) (λh=>?_)<;>simp -dsimp only[go_sem,h,cO,sB,H,J,G,hg,U,Cf])
     |(refine aA.bor (by first|exact Y|exact P2|exact P3|exact ha) rfl ?_;simp -dsimp only[go_sem,cO,sB,H,J,G,hg,U,Cf])
     |(refine aC9 ?_;try simp -dsimp only[go_sem,cO,sB,H,J,G,hg,U,Cf])
     |fail)
   all_goals first|omega|exact⟨_,_,rfl,rfl⟩
  .have e:=aCh h0;rw[e] at Y
   try rw[e]
   refine CdV.l15Bent_ok.fn Tryz.mixed (hin:=[sB l x]) _ _ [.b 0] [sB l z] CdV.l15Bent_nt CdV.l15Bent_rs rfl (by simp) rfl (by simp) λX=>?_;unfold CdV.oM;simp -dsimp only[go_sem,cO,sB,H,J,G,hg,U,Cf]
   repeat' (first
     |(refine RgK.mk rfl ?_;simp -dsimp only[go_sem,cO,sB,H,J,G,hg,U,Cf])
     |(refine RgK.ord Tryz.mixed [[],[0],[],[2],[],[4,3],[1,3,5],[6]] [0,2,4] rfl rfl (by decide) (T0:=[1,3,5,6,7]) rfl (n:=5) rfl rfl ?_;simp -dsimp only[go_sem,vcF,pv,vcO,Bt,BI,Option.isSome_some,cO,sB,H,J,G,hg,U,Cf])
     |(refine OrK.yes rfl ?_ ?_<;>try simp -dsimp only[go_sem,vcO,cO,sB,H,J,G,hg,U,Cf])
     |refine OrK.no rfl ?_
     |exact OrK.nil
     |(refine Br.mk (λh=>?_) (λh=>?_)<;>simp -dsimp only[go_sem,h,cO,sB,H,J,G,hg,U,Cf])
     |(refine aA.bor (by first|exact Y|exact P2|exact P3|exact ha) rfl ?_;simp -dsimp only[go_sem,cO,sB,H,J,G,hg,U,Cf])
     |(refine aC9 ?_;try simp -dsimp only[go_sem,cO,sB,H,J,G,hg,U,Cf])
     |fail)
   all_goals first|omega|exact⟨_,_,rfl,rfl⟩
 have J:(r2==1)=false:=AB.2 h1;by_cases h2:r2=2
 .have M:(r2==2)=true:=BO.2 h2;have P3:=pick l y2 hl 2 (by omega);have v3:=aZ hl y2 (n:=2) (by omega);have q3:=aO l y2 2;generalize pkV l y2 2=r3 at *
  generalize pkS l y2 2=y3 at *
  obtain⟨m,hm⟩:∃m:Nat,r3=m:=⟨r3.toNat,by omega⟩;subst hm;have V:IntKind.i64.wrap (20+(m:Int))=((20+m:Nat):Int):=by rw[aI (by omega) (by omega)];omega
  refine⟨⟨o.trays,List.replicate (20+m) []⟩,y3,⟨Z.1,⟨by simp;omega,λc hc=>by rw[List.eq_of_mem_replicate hc];exact⟨by simp,λx hx=>(by cases hx)⟩⟩⟩,by omega,?_⟩;refine Vs.Fn.asB (r:=.agg [.sl 1 (E cD o.trays),.sl 1 (List.replicate (20+m) [.v (.slice none 0 0)])]) ?_ rfl λS w v h=>?_;have O:(List.replicate (20+m) [AV.v (.slice none 0 0)]).take (20+m)=List.replicate (20+m) [AV.v (.slice none 0 0)]:=Ah (by simp)
  rotate_left
  .rw[show(.agg (cO ⟨o.trays,List.replicate (20+m) []⟩):AV)=.agg [.sl 1 (E cD o.trays),.sl 1 (List.replicate (20+m) [.sl 2 []])] by simp[cO,E,cTs]];exact aMI h (λ_ h=>h) λu hu=>aOe hu λ_=>aMK
  by_cases h0:o.totals.length=0
  .have e:=aCi h0;rw[e] at Y
   try rw[e]
   refine CdV.l15Bent_ok.fn Tryz.mixed (hin:=[sB l x]) _ _ [.b 0] [sB l y3] CdV.l15Bent_nt CdV.l15Bent_rs rfl (by simp) rfl (by simp) λX=>?_;unfold CdV.oM;simp -dsimp only[go_sem,cO,sB,H,J,M,G,I,V,O]
   repeat' (first
     |(refine RgK.mk rfl ?_;simp -dsimp only[go_sem,cO,sB,H,J,M,G,I,V,O])
     |(refine RgK.ord Tryz.mixed [[],[0],[],[2],[],[4,3],[1,3,5],[6]] [0,2,4] rfl rfl (by decide) (T0:=[1,3,5,6,7]) rfl (n:=5) rfl rfl ?_;simp -dsimp only[go_sem,vcF,pv,vcO,Bt,BI,Option.isSome_some,cO,sB,H,J,M,G,I,V,O])
     |(refine OrK.yes rfl ?_ ?_<;>try simp -dsimp only[go_sem,vcO,cO,sB,H,J,M,G,I,V,O])
     |refine OrK.no rfl ?_
     |exact OrK.nil
     |(refine Br.mk (λh=>?_) (λh=>?_)<;>simp -dsimp only[go_sem,h,cO,sB,H,J,M,G,I,V,O])
     |(refine aA.bor (by first|exact Y|exact P2|exact P3) rfl ?_;simp -dsimp only[go_sem,cO,sB,H,J,M,G,I,V,O])
     |(refine aC9 ?_;try simp -dsimp only[go_sem,cO,sB,H,J,M,G,I,V,O])
     |fail)
   all_goals first|omega|exact⟨_,_,rfl,rfl⟩
  .have e:=aCh h0;rw[e] at Y
   try rw[e]
   refine CdV.l15Bent_ok.fn Tryz.mixed (hin:=[sB l x]) _ _ [.b 0] [sB l y3] CdV.l15Bent_nt CdV.l15Bent_rs rfl (by simp) rfl (by simp) λX=>?_;unfold CdV.oM;simp -dsimp only[go_sem,cO,sB,H,J,M,G,I,V,O]
   repeat' (first
     |(refine RgK.mk rfl ?_;simp -dsimp only[go_sem,cO,sB,H,J,M,G,I,V,O])
     |(refine RgK.ord Tryz.mixed [[],[0],[],[2],[],[4,3],[1,3,5],[6]] [0,2,4] rfl rfl (by decide) (T0:=[1,3,5,6,7]) rfl (n:=5) rfl rfl ?_;simp -dsimp only[go_sem,vcF,pv,vcO,Bt,BI,Option.isSome_some,cO,sB,H,J,M,G,I,V,O])
     |(refine OrK.yes rfl ?_ ?_<;>try simp -dsimp only[go_sem,vcO,cO,sB,H,J,M,G,I,V,O])
     |refine OrK.no rfl ?_
     |exact OrK.nil
     |(refine Br.mk (λh=>?_) (λh=>?_)<;>simp -dsimp only[go_sem,h,cO,sB,H,J,M,G,I,V,O])
     |(refine aA.bor (by first|exact Y|exact P2|exact P3) rfl ?_;simp -dsimp only[go_sem,cO,sB,H,J,M,G,I,V,O])
     |(refine aC9 ?_;try simp -dsimp only[go_sem,cO,sB,H,J,M,G,I,V,O])
     |fail)
   all_goals first|omega|exact⟨_,_,rfl,rfl⟩
 have M:(r2==2)=false:=AB.2 h2;refine⟨o,y2,Z,by omega,?_⟩;refine Vs.Fn.asB (r:=.agg [.sl 1 (E cD o.trays),roT o]) ?_ (by unfold roT;split<;>rfl) λS w v h=>aHk h;by_cases h0:o.totals.length=0
 .have e:=aCi h0;rw[e] at Y
  try rw[e]
  refine CdV.l15Bent_ok.fn Tryz.mixed (hin:=[sB l x]) _ _ [.b 0] [sB l y2] CdV.l15Bent_nt CdV.l15Bent_rs rfl (by simp) rfl (by simp) λX=>?_;unfold CdV.oM;simp -dsimp only[go_sem,cO,sB,H,J,M,G,I]
  repeat' (first
    |(refine RgK.mk rfl ?_;simp -dsimp only[go_sem,cO,sB,H,J,M,G,I])
    |(refine RgK.ord Tryz.mixed [[],[0],[],[2],[],[4,3],[1,3,5],[6]] [0,2,4] rfl rfl (by decide) (T0:=[1,3,5,6,7]) rfl (n:=5) rfl rfl ?_;simp -dsimp only[go_sem,vcF,pv,vcO,Bt,BI,Option.isSome_some,cO,sB,H,J,M,G,I])
    |(refine OrK.yes rfl ?_ ?_<;>try simp -dsimp only[go_sem,vcO,cO,sB,H,J,M,G,I])
    |refine OrK.no rfl ?_
    |exact OrK.nil
    |(refine Br.mk (λh=>?_) (λh=>?_)<;>simp -dsimp only[go_sem,h,cO,sB,H,J,M,G,I])
    |(refine aA.bor (by first|exact Y|exact P2) rfl ?_;simp -dsimp only[go_sem,cO,sB,H,J,M,G,I])
    |(refine aC9 ?_;try simp -dsimp only[go_sem,cO,sB,H,J,M,G,I])
    |fail)
  all_goals first|omega|exact⟨_,_,rfl,rfl⟩
 .have e:=aCh h0;rw[e] at Y
  try rw[e]
  refine CdV.l15Bent_ok.fn Tryz.mixed (hin:=[sB l x]) _ _ [.b 0] [sB l y2] CdV.l15Bent_nt CdV.l15Bent_rs rfl (by simp) rfl (by simp) λX=>?_;unfold CdV.oM;simp -dsimp only[go_sem,cO,sB,H,J,M,G,I]
  repeat' (first
    |(refine RgK.mk rfl ?_;simp -dsimp only[go_sem,cO,sB,H,J,M,G,I])
    |(refine RgK.ord Tryz.mixed [[],[0],[],[2],[],[4,3],[1,3,5],[6]] [0,2,4] rfl rfl (by decide) (T0:=[1,3,5,6,7]) rfl (n:=5) rfl rfl ?_;simp -dsimp only[go_sem,vcF,pv,vcO,Bt,BI,Option.isSome_some,cO,sB,H,J,M,G,I])
    |(refine OrK.yes rfl ?_ ?_<;>try simp -dsimp only[go_sem,vcO,cO,sB,H,J,M,G,I])
    |refine OrK.no rfl ?_
    |exact OrK.nil
    |(refine Br.mk (λh=>?_) (λh=>?_)<;>simp -dsimp only[go_sem,h,cO,sB,H,J,M,G,I])
    |(refine aA.bor (by first|exact Y|exact P2) rfl ?_;simp -dsimp only[go_sem,cO,sB,H,J,M,G,I])
    |(refine aC9 ?_;try simp -dsimp only[go_sem,cO,sB,H,J,M,G,I])
    |fail)
  all_goals first|omega|exact⟨_,_,rfl,rfl⟩
end
section
variable [Vs.Tab 0 Vs.powP]
attribute [local irreducible] Vs.Fn nxV nxS pkV pkS pt crd gG dtF jD run wO
open Go.Vs.Q in
def CdV.DrawEC:aD:=s [o 2 (.alloc [.v (.slice none 0 0),.v (.slice none 0 0)]),o 3 (.alloc [.v (.int .i64 (0)),.v (.int .i64 (0)),.v (.int .i64 (0)),.v (.int .i64 (0)),.v (.int .i64 (0)),.v (.int .i64 (0)),.v (.int .i64 (0)),.v (.int .i64 (0)),.v (.string ⟨#[]⟩)]),o 4 (.alloc [.v (.int .i64 (0)),.v (.int .i64 (0))])]
 [0,2,3,4]<|s [m 8 0,c 9 F.gJ [8],m 5 9] [2,3,4,5]<|s [m 10 5,o 11 (.call (.func F.aEo) [10] [0]),o 6 (.alloc [.v (.slice none 0 0),.v (.slice none 0 0)]),⟨none,.store 2 6 11,none⟩] [2,3,4,5,6]<|s [m 12 5,o 13 (.call (.func F.fV) [12] [0]),o 7 (.alloc [.v (.int .i64
 (0)),.v (.int .i64 (0)),.v (.int .i64 (0)),.v (.int .i64 (0)),.v (.int .i64 (0)),.v (.int .i64 (0)),.v (.int .i64 (0)),.v (.int .i64 (0)),.v (.string ⟨#[]⟩)]),⟨none,.store 9 7 13,none⟩] [2,3,4,5,6,7]<|.seq (s [m 14 5,o 15 (.call (.func F.bA) [14,(k 2)] [0])] [2,3,4,5,6,7,15]<|.cond 15
 (s [m 16 5,o 17 (.call (.func F.aF) [16,(k 2)] [0]),o 18 (.bin .add (k 1) 17),m 19 5,o 20 (.call (.func F.aF) [19,(k 3)] [0]),o 21 (.build [.v (.int .i64 (0)),.v (.int .i64 (0))] [(1,1,(k 1))]),m 22 5,o 23 (.call (.func F.aF) [22,(k 3)] [0]),o 24
 (.build [.v (.int .i64 (0)),.v (.int .i64 (0)),.v (.int .i64 (0)),.v (.int .i64 (0)),.v (.int .i64 (0)),.v (.int .i64 (0)),.v (.int .i64 (0)),.v (.int .i64 (0)),.v (.string ⟨#[]⟩)] [(0,1,18),(1,1,20),(4,2,21),(3,1,23)]),⟨none,.store 9 7 24,none⟩] [2,3,4,5,6,7]<|s [fa 25 0 7,lf 26 1 25,en 27 26 2]
 [2,3,4,5,6,7,27]<|.cond 27 (.region [m 28 5,o 29 (.call (.func F.aF) [28,(k 3)] [0]),fa 30 2 7,⟨none,.store 1 30 29,none⟩] [2,3,4,5,6,7] []) .skip) .skip)<|.seq (s [m 31 5,o 32 (.call (.func F.bA) [31,(k 12)] [0])] [2,3,4,5,6,7,32]<|.cond 32 (.region [m 33 5,o 34
 (.call (.func F.lD) [33,7] [0,1])] [2,3,4,5,6,7] []) .skip)<|r [lt 35 2 6,lt 36 9 7,m 37 5,o 38 (.call (.func F.yE) [37] [0]),⟨none,.store 2 2 35,none⟩,⟨none,.store 9 3 36,none⟩,⟨none,.store 2 4 38,none⟩] [2,3,4] [3000000]<|.ret
theorem CdV.DrawEC_rs:Tryz.f5.results.toList=[.cell 2 27,.cell 3 31,.cell 4 29]:=rfl
theorem CdV.DrawEC_nt:Tryz.f5.ntmps=39:=rfl
theorem CdV.DrawEC_ok:xQ Tryz.prog [([[],[],[],[2],[0,3],[1,4],[3,5]],[2])] 5 Tryz.f5 CdV.DrawEC:=⟨Tryz.func5,by kernel_rfl,by decide +kernel⟩
attribute [local go_sem] Int.reduceBEq Int.reduceBNe cC aH Af Ag Ao Aq Ae Aj Ad Al Ac Ai Ap Av Am Ak AR BQ Vs.Name.t.injEq Ar AY aT aU bF sB Be BF BG Int.reduceAdd Int.reduceSub cCt aT aU bF sB Be BF BG Ar AY Ad Al Bf BA Cj Ce Ae Aj in
theorem aOJ (l:List Int) (I:byt l) (HB:aMk l):∃o s J M,kP o∧s.text.size<=2∧Fz F.pF [.sl 1 (E cU l)] (.tup [.agg (cO o),.agg (cS s),.agg (cFd J M)]):=by
 have FR:=aGn l;obtain⟨o,y0,ho,q0,DO⟩:=oM l ⟨0,0⟩ I HB (by dsimp only;omega);dsimp only at q0;obtain⟨s,y1,hs,q1,DS⟩:=aGC l y0 I (by omega);have Z:=one l y1 I 2 (by omega);have q2:=aO l y1 2;obtain⟨b2,hb⟩:∃b,(pkV l y1 2==0)=b:=⟨_,rfl⟩;rw[hb] at Z;generalize pkS l y1 2=y2 at *
 cases b2
 .have U:=one l y2 I 12 (by omega);have q7:=aO l y2 12;obtain⟨b7,V⟩:∃b,(pkV l y2 12==0)=b:=⟨_,rfl⟩;rw[V] at U;generalize pkS l y2 12=y7 at *
  cases b7
  .obtain⟨J,M,z,q9,O⟩:=iD l y7 I (by omega);refine⟨o,s,J,M,ho,hs,?_⟩;refine CdV.DrawEC_ok.fn Tryz.mixed (hin:=[]) _ _ [] [] CdV.DrawEC_nt CdV.DrawEC_rs rfl (by simp) rfl (by simp) λX=>?_;unfold CdV.DrawEC;simp -dsimp only[go_sem,cFd,cO,cFd,cS]
   repeat' (first
     |(refine RgK.mk rfl ?_;simp -dsimp only[go_sem,cFd,cO,cFd,cS])
     |(refine RgK.ord Tryz.mixed [[],[],[],[2],[0,3],[1,4],[3,5]] [2] rfl rfl (by decide) (T0:=[0,1,3,4,5,6]) rfl (n:=6) rfl rfl ?_;simp -dsimp only[go_sem,vcF,pv,vcO,Bt,BI,Option.isSome_some,cFd,cO,cFd,cS])
     |(refine OrK.yes rfl ?_ ?_<;>try simp -dsimp only[go_sem,vcO,cFd,cO,cFd,cS])
     |refine OrK.no rfl ?_
     |exact OrK.nil
     |(refine Br.mk (λh=>?_) (λh=>?_)<;>simp -dsimp only[go_sem,h,cFd,cO,cFd,cS])
     |(refine aA.bor (by first|exact DO|exact DS|exact Z|exact U|exact O) rfl ?_;simp -dsimp only[go_sem,cFd,cO,cFd,cS])
     |(refine aA.own (by first|exact FR) rfl ?_;simp -dsimp only[go_sem,cFd,cO,cFd,cS])
     |(refine aC9 ?_;try simp -dsimp only[go_sem,cFd,cO,cFd,cS])
     |fail)
   all_goals first|omega|exact⟨_,_,rfl,rfl⟩
  .obtain⟨s8,y8,q8,Y,D8⟩:=aG9 l y7 I (by omega) s (hs);obtain⟨J,M,z,q9,O⟩:=iD l y8 I (by omega);refine⟨o,s8,J,M,ho,Y,?_⟩;refine CdV.DrawEC_ok.fn Tryz.mixed (hin:=[]) _ _ [] [] CdV.DrawEC_nt CdV.DrawEC_rs rfl (by simp) rfl (by simp) λX=>?_;unfold CdV.DrawEC;simp -dsimp only[go_sem,cFd,cO,cFd,cS]
   repeat' (first
     |(refine RgK.mk rfl ?_;simp -dsimp only[go_sem,cFd,cO,cFd,cS])
     |(refine RgK.ord Tryz.mixed [[],[],[],[2],[0,3],[1,4],[3,5]] [2] rfl rfl (by decide) (T0:=[0,1,3,4,5,6]) rfl (n:=6) rfl rfl ?_;simp -dsimp only[go_sem,vcF,pv,vcO,Bt,BI,Option.isSome_some,cFd,cO,cFd,cS])
     |(refine OrK.yes rfl ?_ ?_<;>try simp -dsimp only[go_sem,vcO,cFd,cO,cFd,cS])
     |refine OrK.no rfl ?_
     |exact OrK.nil
     |(refine Br.mk (λh=>?_) (λh=>?_)<;>simp -dsimp only[go_sem,h,cFd,cO,cFd,cS])
     |(refine aA.borG (by first|exact D8) rfl ?_;simp -dsimp only[go_sem,cFd,cO,cFd,cS])
     |(refine aA.bor (by first|exact DO|exact DS|exact Z|exact U|exact O) rfl ?_;simp -dsimp only[go_sem,cFd,cO,cFd,cS])
     |(refine aA.own (by first|exact FR) rfl ?_;simp -dsimp only[go_sem,cFd,cO,cFd,cS])
     |(refine aC9 ?_;try simp -dsimp only[go_sem,cFd,cO,cFd,cS])
     |fail)
   all_goals first|omega|exact⟨_,_,rfl,rfl⟩
 .have P3:=pick l y2 I 2 (by omega);have h3:=aZ I y2 (n:=2) (by omega);have q3:=aO l y2 2;generalize pkV l y2 2=v3 at *
  generalize pkS l y2 2=y3 at *
  have P4:=pick l y3 I 3 (by omega);have h4:=aZ I y3 (n:=3) (by omega);have q4:=aO l y3 3;generalize pkV l y3 3=v4 at *
  generalize pkS l y3 3=y4 at *
  have P5:=pick l y4 I 3 (by omega);have h5:=aZ I y4 (n:=3) (by omega);have q5:=aO l y4 3;generalize pkV l y4 3=v5 at *
  generalize pkS l y4 3=y5 at *
  have G:IntKind.i64.wrap 1=1:=rfl;have H:IntKind.i64.wrap 2=2:=rfl;by_cases ha:v3=0
  .subst ha;have U:=one l y5 I 12 (by omega);have q7:=aO l y5 12;obtain⟨b7,V⟩:∃b,(pkV l y5 12==0)=b:=⟨_,rfl⟩;rw[V] at U;generalize pkS l y5 12=y7 at *
   cases b7
   .obtain⟨J,M,z,q9,O⟩:=iD l y7 I (by omega);refine⟨o,(⟨1,v4,0,v5,0,1,0,0,⟨#[]⟩⟩:Stp),J,M,ho,Nat.zero_le _,?_⟩;refine CdV.DrawEC_ok.fn Tryz.mixed (hin:=[]) _ _ [] [] CdV.DrawEC_nt CdV.DrawEC_rs rfl (by simp) rfl (by simp) λX=>?_;unfold CdV.DrawEC;simp -dsimp only[go_sem,cFd,cO,cFd,cS,G,H]
    repeat' (first
      |(refine RgK.mk rfl ?_;simp -dsimp only[go_sem,cFd,cO,cFd,cS,G,H])
      |(refine RgK.ord Tryz.mixed [[],[],[],[2],[0,3],[1,4],[3,5]] [2] rfl rfl (by decide) (T0:=[0,1,3,4,5,6]) rfl (n:=6) rfl rfl ?_;simp -dsimp only[go_sem,vcF,pv,vcO,Bt,BI,Option.isSome_some,cFd,cO,cFd,cS,G,H])
      |(refine OrK.yes rfl ?_ ?_<;>try simp -dsimp only[go_sem,vcO,cFd,cO,cFd,cS,G,H])
      |refine OrK.no rfl ?_
      |exact OrK.nil
      |(refine Br.mk (λh=>?_) (λh=>?_)<;>simp -dsimp only[go_sem,h,cFd,cO,cFd,cS,G,H])
      |(refine aA.bor (by first|exact DO|exact DS|exact Z|exact P3|exact P4|exact P5|exact U|exact O) rfl ?_;simp -dsimp only[go_sem,cFd,cO,cFd,cS,G,H])
      |(refine aA.own (by first|exact FR) rfl ?_;simp -dsimp only[go_sem,cFd,cO,cFd,cS,G,H])
      |(refine aC9 ?_;try simp -dsimp only[go_sem,cFd,cO,cFd,cS,G,H])
      |fail)
    all_goals first|omega|exact⟨_,_,rfl,rfl⟩
   .obtain⟨s8,y8,q8,Y,D8⟩:=aG9 l y7 I (by omega) (⟨1,v4,0,v5,0,1,0,0,⟨#[]⟩⟩:Stp) (Nat.zero_le _);obtain⟨J,M,z,q9,O⟩:=iD l y8 I (by omega);refine⟨o,s8,J,M,ho,Y,?_⟩;refine CdV.DrawEC_ok.fn Tryz.mixed (hin:=[]) _ _ [] [] CdV.DrawEC_nt CdV.DrawEC_rs rfl (by simp) rfl (by simp) λX=>?_;unfold CdV.DrawEC;simp -dsimp only[go_sem,cFd,cO,cFd,cS,G,H]
    repeat' (first
      |(refine RgK.mk rfl ?_;simp -dsimp only[go_sem,cFd,cO,cFd,cS,G,H])
      |(refine RgK.ord Tryz.mixed [[],[],[],[2],[0,3],[1,4],[3,5]] [2] rfl rfl (by decide) (T0:=[0,1,3,4,5,6]) rfl (n:=6) rfl rfl ?_;simp -dsimp only[go_sem,vcF,pv,vcO,Bt,BI,Option.isSome_some,cFd,cO,cFd,cS,G,H])
      |(refine OrK.yes rfl ?_ ?_<;>try simp -dsimp only[go_sem,vcO,cFd,cO,cFd,cS,G,H])
      |refine OrK.no rfl ?_
      |exact OrK.nil
      |(refine Br.mk (λh=>?_) (λh=>?_)<;>simp -dsimp only[go_sem,h,cFd,cO,cFd,cS,G,H])
      |(refine aA.borG (by first|exact D8) rfl ?_;simp -dsimp only[go_sem,cFd,cO,cFd,cS,G,H])
      |(refine aA.bor (by first|exact DO|exact DS|exact Z|exact P3|exact P4|exact P5|exact U|exact O) rfl ?_;simp -dsimp only[go_sem,cFd,cO,cFd,cS,G,H])
      |(refine aA.own (by first|exact FR) rfl ?_;simp -dsimp only[go_sem,cFd,cO,cFd,cS,G,H])
      |(refine aC9 ?_;try simp -dsimp only[go_sem,cFd,cO,cFd,cS,G,H])
      |fail)
    all_goals first|omega|exact⟨_,_,rfl,rfl⟩
  .obtain rfl:v3=1:=by omega
   have P6:=pick l y5 I 3 (by omega);have h6:=aZ I y5 (n:=3) (by omega);have q6:=aO l y5 3;generalize pkV l y5 3=v6 at *
   generalize pkS l y5 3=y6 at *
   have U:=one l y6 I 12 (by omega);have q7:=aO l y6 12;obtain⟨b7,V⟩:∃b,(pkV l y6 12==0)=b:=⟨_,rfl⟩;rw[V] at U;generalize pkS l y6 12=y7 at *
   cases b7
   .obtain⟨J,M,z,q9,O⟩:=iD l y7 I (by omega);refine⟨o,(⟨2,v4,v6,v5,0,1,0,0,⟨#[]⟩⟩:Stp),J,M,ho,Nat.zero_le _,?_⟩;refine CdV.DrawEC_ok.fn Tryz.mixed (hin:=[]) _ _ [] [] CdV.DrawEC_nt CdV.DrawEC_rs rfl (by simp) rfl (by simp) λX=>?_;unfold CdV.DrawEC;simp -dsimp only[go_sem,cFd,cO,cFd,cS,G,H]
    repeat' (first
      |(refine RgK.mk rfl ?_;simp -dsimp only[go_sem,cFd,cO,cFd,cS,G,H])
      |(refine RgK.ord Tryz.mixed [[],[],[],[2],[0,3],[1,4],[3,5]] [2] rfl rfl (by decide) (T0:=[0,1,3,4,5,6]) rfl (n:=6) rfl rfl ?_;simp -dsimp only[go_sem,vcF,pv,vcO,Bt,BI,Option.isSome_some,cFd,cO,cFd,cS,G,H])
      |(refine OrK.yes rfl ?_ ?_<;>try simp -dsimp only[go_sem,vcO,cFd,cO,cFd,cS,G,H])
      |refine OrK.no rfl ?_
      |exact OrK.nil
      |(refine Br.mk (λh=>?_) (λh=>?_)<;>simp -dsimp only[go_sem,h,cFd,cO,cFd,cS,G,H])
      |(refine aA.bor (by first|exact DO|exact DS|exact Z|exact P3|exact P4|exact P5|exact P6|exact U|exact O) rfl ?_;simp -dsimp only[go_sem,cFd,cO,cFd,cS,G,H])
      |(refine aA.own (by first|exact FR) rfl ?_;simp -dsimp only[go_sem,cFd,cO,cFd,cS,G,H])
      |(refine aC9 ?_;try simp -dsimp only[go_sem,cFd,cO,cFd,cS,G,H])
      |fail)
    all_goals first|omega|exact⟨_,_,rfl,rfl⟩
   .obtain⟨s8,y8,q8,Y,D8⟩:=aG9 l y7 I (by omega) (⟨2,v4,v6,v5,0,1,0,0,⟨#[]⟩⟩:Stp) (Nat.zero_le _);obtain⟨J,M,z,q9,O⟩:=iD l y8 I (by omega);refine⟨o,s8,J,M,ho,Y,?_⟩;refine CdV.DrawEC_ok.fn Tryz.mixed (hin:=[]) _ _ [] [] CdV.DrawEC_nt CdV.DrawEC_rs rfl (by simp) rfl (by simp) λX=>?_;unfold CdV.DrawEC;simp -dsimp only[go_sem,cFd,cO,cFd,cS,G,H]
    repeat' (first
      |(refine RgK.mk rfl ?_;simp -dsimp only[go_sem,cFd,cO,cFd,cS,G,H])
      |(refine RgK.ord Tryz.mixed [[],[],[],[2],[0,3],[1,4],[3,5]] [2] rfl rfl (by decide) (T0:=[0,1,3,4,5,6]) rfl (n:=6) rfl rfl ?_;simp -dsimp only[go_sem,vcF,pv,vcO,Bt,BI,Option.isSome_some,cFd,cO,cFd,cS,G,H])
      |(refine OrK.yes rfl ?_ ?_<;>try simp -dsimp only[go_sem,vcO,cFd,cO,cFd,cS,G,H])
      |refine OrK.no rfl ?_
      |exact OrK.nil
      |(refine Br.mk (λh=>?_) (λh=>?_)<;>simp -dsimp only[go_sem,h,cFd,cO,cFd,cS,G,H])
      |(refine aA.borG (by first|exact D8) rfl ?_;simp -dsimp only[go_sem,cFd,cO,cFd,cS,G,H])
      |(refine aA.bor (by first|exact DO|exact DS|exact Z|exact P3|exact P4|exact P5|exact P6|exact U|exact O) rfl ?_;simp -dsimp only[go_sem,cFd,cO,cFd,cS,G,H])
      |(refine aA.own (by first|exact FR) rfl ?_;simp -dsimp only[go_sem,cFd,cO,cFd,cS,G,H])
      |(refine aC9 ?_;try simp -dsimp only[go_sem,cFd,cO,cFd,cS,G,H])
      |fail)
    all_goals first|omega|exact⟨_,_,rfl,rfl⟩
end
section
variable [Rd]
attribute [local irreducible] Vs.Fn nxV nxS pkV pkS pt crd gG dtF jD dcl oZ aFB aFC dP ctT rcV okC stO dsC wO
theorem f6big (l:List Int) (H:l.length<=9223372036854775807):Fz F.aBf [.sl 1 (E cU l)] (.v (.bool (decide ((l.length:Int)>4096)))):=by
 have G:(E cU l).length=l.length:=aH _;refine fn0 Cd.l_f6big_k λX=>?_
 repeat' first|simp -dsimp only[go_sem,G,Int.reduceBEq,Int.reduceBNe,cC,aH,Af,Ag,Ao,Aq,Ae,Aj,Ad,Al,Ac,Ai,Ap,Av,Am,Ak,AR,BQ,Vs.Name.t.injEq,Ar,AY,aT,aU,bF,sB,Be,BF,BG,cCt,cFd,cS,cO,AJ,Bp,Ar,AY,Ad,Al,Bf,BA,Cj,Ce,Ae,Aj,bne_self_eq_false,beq_self_eq_true,Bool.and_self,BV,Cs,Bool.or_self,Bool.or_false,Di]|apply Br.mk<;>intro h<;>try simp -dsimp only[h]|refine aC ?_|refine aC9 ?_|fail
 all_goals first|omega|exact⟨_,_,rfl,rfl⟩
theorem aBO {a b c:Int} (h:okC a b c=true):(0<=a∧a<=1000000)∧(-1000000000000000<=b∧b<=1000000000000000)∧0<=c∧c<=1000000000:=by
 simp only[okC,inB,Aw,Bb] at h;omega
theorem aOB (a b c x y z:Int):dP a b c x y z (W (a+W (1*x))) (W (b+W (1*y))) (W (c+W (1*z)))=dP a b c x y z (W (a+x)) (W (b+y)) (W (c+z)):=by
 unfold dP;split
 .rename_i h;simp only[Aw] at h;have F:=aBO h.1;have h2:=aBO h.2;rw[show W (1*x)=1*x from aI (by omega) (by omega),show W (1*y)=1*y from aI (by omega) (by omega),show W (1*z)=1*z from aI (by omega) (by omega)];simp only[Int.one_mul]
 .rfl
theorem aIH (a b c x y z:Int):dP a b c x y z (W (a+W (-1*x))) (W (b+W (-1*y))) (W (c+W (-1*z)))=dP a b c x y z (W (a-x)) (W (b-y)) (W (c-z)):=by
 unfold dP;split
 .rename_i h;simp only[Aw] at h;have F:=aBO h.1;have h2:=aBO h.2;rw[show W (-1*x)=-1*x from aI (by omega) (by omega),show W (-1*y)=-1*y from aI (by omega) (by omega),show W (-1*z)=-1*z from aI (by omega) (by omega)];rw[show a + -1*x=a-x by omega,show b + -1*y=b-y by omega,show c + -1*z=c-z by omega]
 .rfl
theorem aNe {a b c x y z:Int} (h:(dP a b c x y z (W (a+x)) (W (b+y)) (W (c+z))).2.2.2=0) :
  ∀p q r,dP a b c x y z (W (a+x)) (W (b+y)) (W (c+z))=(p,q,r,0)->dP p q r x y z (W (p-x)) (W (q-y)) (W (r-z))=(a,b,c,0):=by
 intro p q r G;unfold dP at h G⊢;by_cases F:(okC a b c&&okC x y z)=true
 .rw[AP F] at h G;by_cases h2:okC (W (a+x)) (W (b+y)) (W (c+z))=true
  .rw[AP h2] at h G;simp only[Aw] at F;have V:=aBO F.1;have Y:=aBO F.2;simp only[AL] at G;obtain⟨rfl,rfl,rfl,-⟩:=G;have H:W (a+x)=a+x:=aI (by omega) (by omega);have I:W (b+y)=b+y:=aI (by omega) (by omega);have J:W (c+z)=c+z:=aI (by omega) (by omega);rw[H,I,J] at h2⊢;rw[show a+x-x=a by omega,show b+y-y=b by omega,show c+z-z=c by omega];have M:W a=a:=aI (by omega) (by omega);have O:W b=b:=aI (by omega) (by omega);have U:W c=c:=aI (by omega) (by omega);rw[M,O,U,h2,F.1,F.2];rfl
  .rw[AC h2] at h;exact absurd h (by simp)
 .rw[AC F] at h;exact absurd h (by simp)
theorem aLN {fr to:Int}{o:Off}{x:Stp} (H:kP o) (h:(oZ fr to o x).2=0):okO (wO o.trays) o:=by
 have G:exC fr to o=0:=by
  unfold oZ at h;by_cases F:exC fr to o=0
  .exact F
  .simp[F] at h
 exact aK1 (aBr G).1 H
attribute [local go_sem] Int.reduceBEq Int.reduceBNe cC aH Af Ag Ao Aq Ae Aj Ad Al Ac Ai Ap Av Am Ak AR BQ Vs.Name.t.injEq Ar AY aT aU bF sB Be BF BG cCt cFd cS cO AJ Bp Ar AY Ad Al Bf BA Cj Ce Ae Aj bne_self_eq_false beq_self_eq_true Bool.and_self BV Cs Bool.or_self Bool.or_false Di in
set_option maxRecDepth 20000 in
theorem law_FnControls (l:List Int) (hl:∀x,x∈l->0<=x∧x<=255) (h7:l.length<2 ^ 63):Fz F.l_FnControls [.sl 1 (E cU l)] (.v (.bool true)):=by
 have F6:=f6big l (by omega);cases hb:decide ((l.length:Int)>4096)
 rotate_left
 .rw[hb] at F6;refine fn0 Cd.l_FnControls_k λX=>?_
  repeat' first|simp -dsimp only[go_sem]|apply Br.mk<;>intro h<;>try simp -dsimp only[h]|refine aA.c (by first|exact F6) ?_|refine aC ?_|refine aC9 ?_|fail
  all_goals first|omega|exact⟨_,_,rfl,rfl⟩|(refine aR ?_;simp_all;done)
 rw[hb] at F6;have Y:byt l:=⟨by have:=BU hb;omega,hl⟩;obtain⟨o,s,f0,f1,ho,hs,D1⟩:=aOJ l Y (λy hy=>iL l y Y hy);obtain⟨d,g0,g1,hd,D2⟩:=aOK l Y;obtain⟨⟨a1,a2,a3⟩,⟨b1,b2,b3⟩,ha,h6,D3⟩:=aNl l Y;obtain⟨⟨t1,t2,t3⟩,ht,D4⟩:=aJ0 l Y;obtain⟨t,h8,D5⟩:=aOI l Y;obtain⟨k,D6⟩:=aJZ l Y;have I:=yZ o s f0 f1 ho (by omega);have M:=yD o s f0 f1 ho (by omega);have G:=zA d g0 g1 hd.2 hd.1;have H:=aC8 d g0 g1 hd.2 hd.1;have A1:=aLz a1 a2 a3 b1 b2 b3;have A2:=sN a1 a2 a3 b1 b2 b3;have S1:=aEC a1 a2 a3 b1 b2 b3;have S2:=aJk a1 a2 a3 b1 b2 b3;rw[aOB] at A1;rw[aIH] at S1;have hv:=@aNe _ a1 a2 a3 b1 b2 b3;generalize dP a1 a2 a3 b1 b2 b3 (W (a1+b1)) (W (a2+b2)) (W (a3+b3))=J at *
 generalize dP a1 a2 a3 b1 b2 b3 (W (a1-b1)) (W (a2-b2)) (W (a3-b3))=J2 at *
 obtain⟨j1,j2,j3,jc⟩:=J;obtain⟨i1,i2,i3,ic⟩:=J2;have T3:=aEC j1 j2 j3 b1 b2 b3;rw[aIH] at T3;obtain⟨bt,et⟩:∃b,(jc==0)=b:=⟨_,rfl⟩
 replace T3:bt=true->Fz F.gU [.agg (cCt (j1,j2,j3)),.agg (cCt (b1,b2,b3))] (.tup [.agg (cCt (a1,a2,a3)),.v (.int .i64 0)]):=λh=>by
  have e0:jc=0:=eq_of_beq (et.trans h);subst e0;rw[hv rfl _ _ _ rfl] at T3;exact T3
 clear hv;have he:=vW t1 t2 t3;have hf:=aBG t1 t2 t3
 have h4:(ctT t1 t2 t3).size<=1048576:=by
  unfold ctT;split
  .have:=aGK ht;omega
  .exact Nat.zero_le _
 have Z:=vV (ctT t1 t2 t3) h4;rw[aML] at Z;have hu:=@aJ3 _ t1 t2 t3;generalize ctT t1 t2 t3=tx at *
 generalize okC t1 t2 t3=bk at *
 have hg:(tx.toList==(⟨#[]⟩:ByteArray).toList) = !bk:=by
  rw[aNP];cases bk
  .rw[hu.2 rfl];rfl
  .exact AQ λh=>by simpa using hu.1 (ByteArray.size_eq_zero_iff.1 h)
 clear hu;have O:=vV t (by omega);have U:=aBF t (by omega);generalize rcV t=V at *
 obtain⟨⟨r1,r2,r3⟩,rb⟩:=V;have K1:=dE k;have K2:=dB k;generalize(k==1||k==2)=kb at *
 generalize aFB g0 g1 d=UT at *
 generalize aFC g0 g1 d=uc at *
 obtain⟨u1,u2,u3⟩:=UT;have hq:=@aLN _ f0 f1 o s ho;have hr:=@keepT _ f0 f1 o s ho;generalize oZ f0 f1 o s=EV at *
 obtain⟨⟨p1,p2,p3⟩,hk⟩:=EV;dsimp only at O U A1 A2 S1 S2 I M G H Z hq hr;have h5:(hk != hk)=false:=bne_self_eq_false _;by_cases h0:hk=0
 rotate_left
 .have eb:(hk != 0)=true:=by simpa using h0
  cases bk
  .simp only[AO,Bc] at Z;refine fn0 Cd.l_FnControls_k λX=>?_
   repeat' first|simp -dsimp only[go_sem,et,hg,eb]|apply Br.mk<;>intro h<;>try simp -dsimp only[h]|refine aA.c (by first|exact F6|exact D1|exact I|exact M|exact D2|exact G|exact H|exact D3|exact A1|exact A2|exact S1|exact S2|exact D4|exact he|exact hf|exact Z|exact D5|exact O|exact U|exact D6|exact K1|exact K2|exact T3 (by assumption)) ?_|refine aC ?_|refine aC9 ?_|fail
   all_goals first|omega|(refine aR rfl;done)|exact⟨_,_,rfl,rfl⟩|(simp at *;done)
  .simp only[Bj] at Z;refine fn0 Cd.l_FnControls_k λX=>?_
   repeat' first|simp -dsimp only[go_sem,et,hg,eb]|apply Br.mk<;>intro h<;>try simp -dsimp only[h]|refine aA.c (by first|exact F6|exact D1|exact I|exact M|exact D2|exact G|exact H|exact D3|exact A1|exact A2|exact S1|exact S2|exact D4|exact he|exact hf|exact Z|exact D5|exact O|exact U|exact D6|exact K1|exact K2|exact T3 (by assumption)) ?_|refine aC ?_|refine aC9 ?_|fail
   all_goals first|omega|(refine aR rfl;done)|exact⟨_,_,rfl,rfl⟩|(simp at *;done)
 subst h0;have h3:=hq rfl;have DS:=aNm o _ h3 s (by omega);by_cases hj:dsC s o=0
 rotate_left
 .have ed:(dsC s o != 0)=true:=by simpa using hj
  rw[show dsV s o=noO by unfold dsV;rw[AC hj]] at DS;unfold noO at DS;generalize dsC s o=dc at *
  cases bk
  .simp only[AO,Bc] at Z;refine fn0 Cd.l_FnControls_k λX=>?_
   repeat' first|simp -dsimp only[go_sem,et,hg,ed]|apply Br.mk<;>intro h<;>try simp -dsimp only[h]|refine aA.c (by first|exact F6|exact D1|exact I|exact M|exact D2|exact G|exact H|exact D3|exact A1|exact A2|exact S1|exact S2|exact D4|exact he|exact hf|exact Z|exact D5|exact O|exact U|exact D6|exact K1|exact K2|exact T3 (by assumption)|exact DS) ?_|refine aC ?_|refine aC9 ?_|fail
   all_goals first|omega|(refine aR rfl;done)|exact⟨_,_,rfl,rfl⟩|(simp at *;done)
  .simp only[Bj] at Z;refine fn0 Cd.l_FnControls_k λX=>?_
   repeat' first|simp -dsimp only[go_sem,et,hg,ed]|apply Br.mk<;>intro h<;>try simp -dsimp only[h]|refine aA.c (by first|exact F6|exact D1|exact I|exact M|exact D2|exact G|exact H|exact D3|exact A1|exact A2|exact S1|exact S2|exact D4|exact he|exact hf|exact Z|exact D5|exact O|exact U|exact D6|exact K1|exact K2|exact T3 (by assumption)|exact DS) ?_|refine aC ?_|refine aC9 ?_|fail
   all_goals first|omega|(refine aR rfl;done)|exact⟨_,_,rfl,rfl⟩|(simp at *;done)
 rw[show dsV s o=.agg (cO (stO s o)) by unfold dsV;rw[AP hj],hj] at DS;obtain⟨kT,kC,kO,hc,hn⟩:=hr rfl hj;clear hr hq;have hm:=iC kO;have VO:=aBD (stO s o) hm;rw[aIr kO] at VO;have h1:=kO.2.1;have hw:=jE (T:=(stO s o).trays) (i:=s.to) ⟨hc,by omega⟩;have hz:=hm.1.2 _ (fM (T:=(stO s o).trays) (i:=s.to) ⟨hc,by omega⟩);have hp:=zA (tr (stO s o).trays s.to) f0 f1 hz.2 hz.1;rw[kT,kC] at hp;have hx:(E cD (stO s o).trays).length=6:=by rw[aH];exact h1
 generalize tr (stO s o).trays s.to=TR at *
 generalize stO s o=o2 at *
 cases bk
 .simp only[AO,Bc] at Z;refine fn0 Cd.l_FnControls_k λX=>?_
  repeat' first|simp -dsimp only[go_sem,et,hg,hx,hw,hc,hn]|apply Br.mk<;>intro h<;>try simp -dsimp only[h]|refine aA.c (by first|exact F6|exact D1|exact I|exact M|exact D2|exact G|exact H|exact D3|exact A1|exact A2|exact S1|exact S2|exact D4|exact he|exact hf|exact Z|exact D5|exact O|exact U|exact D6|exact K1|exact K2|exact T3 (by assumption)|exact DS|exact VO|exact hp) ?_|refine aC ?_|refine aC9 ?_|fail
  all_goals first|omega|(refine aR rfl;done)|exact⟨_,_,rfl,rfl⟩|(simp at *;done)
 .simp only[Bj] at Z;refine fn0 Cd.l_FnControls_k λX=>?_
  repeat' first|simp -dsimp only[go_sem,et,hg,hx,hw,hc,hn]|apply Br.mk<;>intro h<;>try simp -dsimp only[h]|refine aA.c (by first|exact F6|exact D1|exact I|exact M|exact D2|exact G|exact H|exact D3|exact A1|exact A2|exact S1|exact S2|exact D4|exact he|exact hf|exact Z|exact D5|exact O|exact U|exact D6|exact K1|exact K2|exact T3 (by assumption)|exact DS|exact VO|exact hp) ?_|refine aC ?_|refine aC9 ?_|fail
  all_goals first|omega|(refine aR rfl;done)|exact⟨_,_,rfl,rfl⟩|(simp at *;done)
end
end Go.Proofs.YtklmdppgonhflaaGreatDoor
