/- An office, a flow and a field that are drawn. -/
import Derived.Test.YtmiiohemehacjaaGreatDoorXwBh
import Derived.Test.YtmiiohemehacjaaGreatDoorVuX
import Derived.Test.YtmiiohemehacjaaGreatDoorXwBb
set_option linter.all false
set_option maxHeartbeats 8000000
namespace Go.Proofs.YtmiiohemehacjaaGreatDoor
open Go.Vs
section
variable [Vs.Envs]
attribute [local irreducible] Vs.Fn nxV nxS pkV pkS ptN crd dW dtF lH run wO
theorem fnR [Vs.Envs] {Z:List (List (List Nat)×List Nat)}{f:FuncId}{fn:Func}{ac:aF}{nt:Nat}{rs:List ResultVar} (h:wQ Tryz.prog Z f fn ac) (H:fn.ntmps=nt) (K:fn.results.toList=rs) {hin:List Blk}{args:List AV}{r:AV}{u:List (Option Blk)} (B:List Vs.Name) (hout:List Blk)
 (L:∀C:Ctx,wpc Tryz.prog C (drQ Tryz.prog Z) ac (aAQ Tryz.prog rs B r hout) (λe σ=>match e with|.ret=>aAQ Tryz.prog rs B r hout σ|.exit _=>False) ⟨ini 0 args,xW 0 hin⟩) (J:u=hout.map some:=by rfl) (F:Nat.ble args.length nt=true:=by rfl) (G:nodupB B=true:=by rfl) (I:∀j,j<hin.length->B[j]? = some (.b j):=by first|(simp;done)|(intro j H;rcases j with _|_|_|j<;>first|rfl|(simp at H;done)|(simp at H;omega))):Vs.Fn Tryz.prog f hin args r u:=
 h.fn Tryz.mixed nt rs B hout H K J (Nat.le_of_ble_eq_true F) G I L
open Go.Vs.Q in
def CdV.nO:aF:=s [o 2 (.alloc [.v (.slice none 0 0),.v (.slice none 0 0)])] [0,2]<|s [m 4 0,o 5 (.call (.func F.oK) [4] [0]),o 3 (.alloc [.v (.slice none 0 0),.v (.slice none 0 0)]),⟨none,.store 2 3 5,none⟩] [0,2,3]<|.seq (s [m 6 0,o 7 (.call (.func F.aD) [6,(k 20)] [0])]
 [0,2,3,7]<|.block 0 (s [en 9 7 0,m 8 9] [0,2,3,7,8]<|.cond 8 (.region [fa 10 0 3,lf 11 1 10,o 12 (.slc 1 11 none (some (k 5))),fa 13 0 3,⟨none,.store 1 13 12,none⟩] [2,3] []) (s [en 15 7 1,m 14 15] [0,2,3,7,14]<|.cond 14 (.region [fa 16 0 3,lf 17 1 16,m 18 0,o 19 (.call (.func F.aD)
 [18,(k 6)] [0]),m 20 0,o 21 (.call (.func F.dL) [20] [0]),ix 22 1 17 19,⟨none,.store 1 22 21,none⟩] [2,3] [3000000]) (s [en 24 7 2,m 23 24] [0,2,3,23]<|.cond 23 (.region [m 25 0,o 26 (.call (.func F.aD) [25,(k 2)] [0]),o 27 (.bin .add (k 20) 26),o 28 (.mk 1 24 [.v
 (.slice none 0 0)] 27),fa 29 1 3,⟨none,.store 1 29 28,none⟩] [2,3] []) .skip))))<|s [lt 30 2 3,⟨none,.store 2 2 30,none⟩] [2]<|.ret
theorem CdV.l15Bent_rs:Tryz.f82.results.toList=[.cell 2 37]:=rfl
theorem CdV.l15Bent_nt:Tryz.f82.ntmps=31:=rfl
theorem CdV.l15Bent_ok:wQ Tryz.prog [([[],[0],[],[2],[],[4,3],[1,3,5],[6]],[0,2,4])] 82 Tryz.f82 CdV.nO:=⟨Tryz.func82,by kernel_rfl,by decide +kernel⟩
theorem aHr {S:Nat->Prop}{w:World}{x y F G:AV}{v:Value} (h:RC S w (.agg [x,y]) v) (H:∀u,RC S w x u->RC S w F u) (h2:∀u,RC S w y u->RC S w G u):RC S w (.agg [F,G]) v:=by
 cases h with
 | agg _ us hl hr =>
  refine .agg _ us hl λj I=>?_
  match j,I with
  |0,_=>exact H _ (hr 0 (by simp))
  |1,_=>exact h2 _ (hr 1 (by simp))
theorem aHs {S:Nat->Prop}{w:World}{k:Nat}{v:Value} (h:RC S w (.v (.slice none 0 0)) v):RC S w (.sl k []) v:=by
 rw[dD (ρ:=λ_=>none) (κ:=λ_=>0) (h:=λ_=>none) (.clo h)];exact .sl k [] none 0 0 0 (λ_=>undef) (by simp) (by simp) (by simp) (by simp) (by simp) ⟨by simp,by decide⟩
def aBO (l:List Int):Prop:=∀y:Sr,y.p<=1500->∃(d:List (List Int)) (z:Sr),bE d∧z.p<=y.p+700∧Vs.Fn Tryz.prog F.dL [sB l y] [.ptr (.b 0) 0 0] (.sl 1 (E cC d)) [some (sB l z)]
theorem aGA {o:Off}{S:Nat->Prop}{w:World}{v:Value} (h:RC S w (.agg [.sl 1 (E cD o.trays),roT o]) v):RC S w (.agg (cO o)) v:=
 RV.closed (aMJ (ρ:=λ_=>none) (κ:=λ_=>0) (hh:=λ_=>none) (.clo h)) rfl
attribute [local go_sem] Int.reduceBEq Int.reduceBNe cC cS cFd aH Ai Ah Al Aq Ad Af Ac Ae Aa Ab Ao Ar Ay Az Bo Bq Vs.Name.t.injEq Ak AB Vs.Name.b.injEq aW aX bG AA AO AP roV in
theorem nO (l:List Int) (x:Sr) (hl:byt l) (HB:aBO l) (hp:x.p<=500):∃o z,fC o∧z.p<=x.p+1400∧Vs.Fn Tryz.prog F.aDV [sB l x] [.ptr (.b 0) 0 0] (.agg (cO o)) [some (sB l z)]:=by
 obtain⟨o,y1,ho,ha,V⟩:=aF1 l x hl hp;have Y:=dC ho;have h6:=ho.2.1;have G:(E cD o.trays).length=6:=by rw[aH];exact h6
 have I:(E cD o.trays).take 6=E cD o.trays:=Ag (by omega);rw[h6] at V;have P2:=pick l y1 hl 20 (by omega);have v2:=bC hl y1 (n:=20) (by omega);have q2:=aQ l y1 20;generalize pkV l y1 20=r2 at *
 generalize pkS l y1 20=y2 at *
 by_cases Z:r2=0
 .have H:(r2==0)=true:=Bj.2 Z;refine⟨⟨o.trays.take 5,o.totals⟩,y2,⟨⟨by have:=Y.1.1;simp;omega,λd hd=>Y.1.2 d (CQ hd)⟩,Y.2⟩,by omega,?_⟩;refine Vs.Fn.asB (r:=.agg [.sl 1 (E cD (o.trays.take 5)),roT o]) ?_ (by unfold roT;split<;>rfl) λS w v h=>aGA (o:=⟨o.trays.take 5,o.totals⟩) h;rw[show E cD (o.trays.take 5)=(E cD o.trays).take 5 by simp[E,Cz]];by_cases Z:o.totals.length=0
  .have e:=xM Z;rw[e] at V
   try rw[e]
   refine fnR CdV.l15Bent_ok CdV.l15Bent_nt CdV.l15Bent_rs [.b 0] [sB l y2] λX=>?_;unfold CdV.nO;simp -dsimp only[go_sem,cO,sB,H,G]
   repeat' (first
     |(refine RgK.mk rfl ?_;simp -dsimp only[go_sem,cO,sB,H,G])
     |(refine RgK.ord Tryz.mixed [[],[0],[],[2],[],[4,3],[1,3,5],[6]] [0,2,4] rfl rfl (by decide) (T0:=[1,3,5,6,7]) rfl (n:=5) rfl rfl ?_;simp -dsimp only[go_sem,vcF,pv,vcO,AU,Bh,Option.isSome_some,cO,sB,H,G])
     |(refine OrK.yes rfl ?_ ?_<;>try simp -dsimp only[go_sem,vcO,cO,sB,H,G])
     |refine OrK.no rfl ?_
     |exact OrK.nil
     |(refine Br.mk (λh=>?_) (λh=>?_)<;>simp -dsimp only[go_sem,h,cO,sB,H,G])
     |(refine aA.bor (by first|exact V|exact P2) rfl ?_;simp -dsimp only[go_sem,cO,sB,H,G])
     |((first|refine aC ?_|refine aC9 ?_);try simp -dsimp only[go_sem,cO,sB,H,G])
     |fail)
   all_goals first|omega|exact⟨_,_,rfl,rfl⟩
  .have e:=xL Z;rw[e] at V
   try rw[e]
   refine fnR CdV.l15Bent_ok CdV.l15Bent_nt CdV.l15Bent_rs [.b 0] [sB l y2] λX=>?_;unfold CdV.nO;simp -dsimp only[go_sem,cO,sB,H,G]
   repeat' (first
     |(refine RgK.mk rfl ?_;simp -dsimp only[go_sem,cO,sB,H,G])
     |(refine RgK.ord Tryz.mixed [[],[0],[],[2],[],[4,3],[1,3,5],[6]] [0,2,4] rfl rfl (by decide) (T0:=[1,3,5,6,7]) rfl (n:=5) rfl rfl ?_;simp -dsimp only[go_sem,vcF,pv,vcO,AU,Bh,Option.isSome_some,cO,sB,H,G])
     |(refine OrK.yes rfl ?_ ?_<;>try simp -dsimp only[go_sem,vcO,cO,sB,H,G])
     |refine OrK.no rfl ?_
     |exact OrK.nil
     |(refine Br.mk (λh=>?_) (λh=>?_)<;>simp -dsimp only[go_sem,h,cO,sB,H,G])
     |(refine aA.bor (by first|exact V|exact P2) rfl ?_;simp -dsimp only[go_sem,cO,sB,H,G])
     |((first|refine aC ?_|refine aC9 ?_);try simp -dsimp only[go_sem,cO,sB,H,G])
     |fail)
   all_goals first|omega|exact⟨_,_,rfl,rfl⟩
 have H:(r2==0)=false:=Ap.2 Z;by_cases h1:r2=1
 .have J:(r2==1)=true:=Bj.2 h1;have P3:=pick l y2 hl 6 (by omega);have v3:=bC hl y2 (n:=6) (by omega);have q3:=aQ l y2 6;generalize pkV l y2 6=r3 at *
  generalize pkS l y2 6=y3 at *
  obtain⟨m,hm⟩:∃m:Nat,r3=m:=⟨r3.toNat,by omega⟩;subst hm;obtain⟨d,z,hd,hz,BD⟩:=HB y3 (by omega);refine⟨⟨o.trays.set m d,o.totals⟩,z,⟨⟨by have:=Y.1.1;simp;omega,λc hc=>(CJ hc).elim (Y.1.2 c) λh=>h ▸ hd⟩,Y.2⟩,by omega,?_⟩;refine Vs.Fn.asB (r:=.agg [.sl 1 (E cD (o.trays.set m d)),roT o]) ?_ (by unfold roT;split<;>rfl) λS w v h=>aGA (o:=⟨o.trays.set m d,o.totals⟩) h;obtain⟨t0,hg⟩:∃t,(E cD o.trays).getD m []=[t]:=⟨_,(aR (show m<o.trays.length by omega)).trans rfl⟩;have O:((E cD o.trays).set m [.sl 1 (E cC d)]).take 6=E cD (o.trays.set m d):=by rw[Ag (by rw[Ao];omega)];simp[E,Db,cD]
  by_cases Z:o.totals.length=0
  .have e:=xM Z;rw[e] at V
   try rw[e]
   refine fnR CdV.l15Bent_ok CdV.l15Bent_nt CdV.l15Bent_rs [.b 0] [sB l z] λX=>?_;unfold CdV.nO;simp -dsimp only[go_sem,cO,sB,H,J,G,hg,O,A9]
   repeat' (first
     |(refine RgK.mk rfl ?_;simp -dsimp only[go_sem,cO,sB,H,J,G,hg,O,A9])
     |(refine RgK.ord Tryz.mixed [[],[0],[],[2],[],[4,3],[1,3,5],[6]] [0,2,4] rfl rfl (by decide) (T0:=[1,3,5,6,7]) rfl (n:=5) rfl rfl ?_;simp -dsimp only[go_sem,vcF,pv,vcO,AU,Bh,Option.isSome_some,cO,sB,H,J,G,hg,O,A9])
     |(refine OrK.yes rfl ?_ ?_<;>try simp -dsimp only[go_sem,vcO,cO,sB,H,J,G,hg,O,A9])
     |refine OrK.no rfl ?_
     |exact OrK.nil
     |(refine Br.mk (λh=>?_) (λh=>?_)<;>simp -dsimp only[go_sem,h,cO,sB,H,J,G,hg,O,A9])
     |(refine aA.bor (by first|exact V|exact P2|exact P3|exact BD) rfl ?_;simp -dsimp only[go_sem,cO,sB,H,J,G,hg,O,A9])
     |((first|refine aC ?_|refine aC9 ?_);try simp -dsimp only[go_sem,cO,sB,H,J,G,hg,O,A9])
     |fail)
   all_goals first|omega|exact⟨_,_,rfl,rfl⟩
  .have e:=xL Z;rw[e] at V
   try rw[e]
   refine fnR CdV.l15Bent_ok CdV.l15Bent_nt CdV.l15Bent_rs [.b 0] [sB l z] λX=>?_;unfold CdV.nO;simp -dsimp only[go_sem,cO,sB,H,J,G,hg,O,A9]
   repeat' (first
     |(refine RgK.mk rfl ?_;simp -dsimp only[go_sem,cO,sB,H,J,G,hg,O,A9])
     |(refine RgK.ord Tryz.mixed [[],[0],[],[2],[],[4,3],[1,3,5],[6]] [0,2,4] rfl rfl (by decide) (T0:=[1,3,5,6,7]) rfl (n:=5) rfl rfl ?_;simp -dsimp only[go_sem,vcF,pv,vcO,AU,Bh,Option.isSome_some,cO,sB,H,J,G,hg,O,A9])
     |(refine OrK.yes rfl ?_ ?_<;>try simp -dsimp only[go_sem,vcO,cO,sB,H,J,G,hg,O,A9])
     |refine OrK.no rfl ?_
     |exact OrK.nil
     |(refine Br.mk (λh=>?_) (λh=>?_)<;>simp -dsimp only[go_sem,h,cO,sB,H,J,G,hg,O,A9])
     |(refine aA.bor (by first|exact V|exact P2|exact P3|exact BD) rfl ?_;simp -dsimp only[go_sem,cO,sB,H,J,G,hg,O,A9])
     |((first|refine aC ?_|refine aC9 ?_);try simp -dsimp only[go_sem,cO,sB,H,J,G,hg,O,A9])
     |fail)
   all_goals first|omega|exact⟨_,_,rfl,rfl⟩
 have J:(r2==1)=false:=Ap.2 h1;by_cases h2:r2=2
 .have L:(r2==2)=true:=Bj.2 h2;have P3:=pick l y2 hl 2 (by omega);have v3:=bC hl y2 (n:=2) (by omega);have q3:=aQ l y2 2;generalize pkV l y2 2=r3 at *
  generalize pkS l y2 2=y3 at *
  obtain⟨m,hm⟩:∃m:Nat,r3=m:=⟨r3.toNat,by omega⟩;subst hm;have U:IntKind.i64.wrap (20+(m:Int))=((20+m:Nat):Int):=by rw[aM (by omega) (by omega)];omega
  refine⟨⟨o.trays,List.replicate (20+m) []⟩,y3,⟨Y.1,⟨by simp;omega,λc hc=>by rw[List.eq_of_mem_replicate hc];exact⟨by simp,λx hx=>(by cases hx)⟩⟩⟩,by omega,?_⟩;refine Vs.Fn.asB (r:=.agg [.sl 1 (E cD o.trays),.sl 1 (List.replicate (20+m) [.v (.slice none 0 0)])]) ?_ rfl λS w v h=>?_;have M:(List.replicate (20+m) [AV.v (.slice none 0 0)]).take (20+m)=List.replicate (20+m) [AV.v (.slice none 0 0)]:=Ag (by simp)
  rotate_left
  .rw[show(.agg (cO ⟨o.trays,List.replicate (20+m) []⟩):AV)=.agg [.sl 1 (E cD o.trays),.sl 1 (List.replicate (20+m) [.sl 2 []])] by simp[cO,E,cTs]];exact aHr h (λ_ h=>h) λu hu=>aMK hu λ_=>aHs
  by_cases Z:o.totals.length=0
  .have e:=xM Z;rw[e] at V
   try rw[e]
   refine fnR CdV.l15Bent_ok CdV.l15Bent_nt CdV.l15Bent_rs [.b 0] [sB l y3] λX=>?_;unfold CdV.nO;simp -dsimp only[go_sem,cO,sB,H,J,L,G,I,U,M]
   repeat' (first
     |(refine RgK.mk rfl ?_;simp -dsimp only[go_sem,cO,sB,H,J,L,G,I,U,M])
     |(refine RgK.ord Tryz.mixed [[],[0],[],[2],[],[4,3],[1,3,5],[6]] [0,2,4] rfl rfl (by decide) (T0:=[1,3,5,6,7]) rfl (n:=5) rfl rfl ?_;simp -dsimp only[go_sem,vcF,pv,vcO,AU,Bh,Option.isSome_some,cO,sB,H,J,L,G,I,U,M])
     |(refine OrK.yes rfl ?_ ?_<;>try simp -dsimp only[go_sem,vcO,cO,sB,H,J,L,G,I,U,M])
     |refine OrK.no rfl ?_
     |exact OrK.nil
     |(refine Br.mk (λh=>?_) (λh=>?_)<;>simp -dsimp only[go_sem,h,cO,sB,H,J,L,G,I,U,M])
     |(refine aA.bor (by first|exact V|exact P2|exact P3) rfl ?_;simp -dsimp only[go_sem,cO,sB,H,J,L,G,I,U,M])
     |((first|refine aC ?_|refine aC9 ?_);try simp -dsimp only[go_sem,cO,sB,H,J,L,G,I,U,M])
     |fail)
   all_goals first|omega|exact⟨_,_,rfl,rfl⟩
  .have e:=xL Z;rw[e] at V
   try rw[e]
   refine fnR CdV.l15Bent_ok CdV.l15Bent_nt CdV.l15Bent_rs [.b 0] [sB l y3] λX=>?_;unfold CdV.nO;simp -dsimp only[go_sem,cO,sB,H,J,L,G,I,U,M]
   repeat' (first
     |(refine RgK.mk rfl ?_;simp -dsimp only[go_sem,cO,sB,H,J,L,G,I,U,M])
     |(refine RgK.ord Tryz.mixed [[],[0],[],[2],[],[4,3],[1,3,5],[6]] [0,2,4] rfl rfl (by decide) (T0:=[1,3,5,6,7]) rfl (n:=5) rfl rfl ?_;simp -dsimp only[go_sem,vcF,pv,vcO,AU,Bh,Option.isSome_some,cO,sB,H,J,L,G,I,U,M])
     |(refine OrK.yes rfl ?_ ?_<;>try simp -dsimp only[go_sem,vcO,cO,sB,H,J,L,G,I,U,M])
     |refine OrK.no rfl ?_
     |exact OrK.nil
     |(refine Br.mk (λh=>?_) (λh=>?_)<;>simp -dsimp only[go_sem,h,cO,sB,H,J,L,G,I,U,M])
     |(refine aA.bor (by first|exact V|exact P2|exact P3) rfl ?_;simp -dsimp only[go_sem,cO,sB,H,J,L,G,I,U,M])
     |((first|refine aC ?_|refine aC9 ?_);try simp -dsimp only[go_sem,cO,sB,H,J,L,G,I,U,M])
     |fail)
   all_goals first|omega|exact⟨_,_,rfl,rfl⟩
 have L:(r2==2)=false:=Ap.2 h2;refine⟨o,y2,Y,by omega,?_⟩;refine Vs.Fn.asB (r:=.agg [.sl 1 (E cD o.trays),roT o]) ?_ (by unfold roT;split<;>rfl) λS w v h=>aGA h;by_cases Z:o.totals.length=0
 .have e:=xM Z;rw[e] at V
  try rw[e]
  refine fnR CdV.l15Bent_ok CdV.l15Bent_nt CdV.l15Bent_rs [.b 0] [sB l y2] λX=>?_;unfold CdV.nO;simp -dsimp only[go_sem,cO,sB,H,J,L,G,I]
  repeat' (first
    |(refine RgK.mk rfl ?_;simp -dsimp only[go_sem,cO,sB,H,J,L,G,I])
    |(refine RgK.ord Tryz.mixed [[],[0],[],[2],[],[4,3],[1,3,5],[6]] [0,2,4] rfl rfl (by decide) (T0:=[1,3,5,6,7]) rfl (n:=5) rfl rfl ?_;simp -dsimp only[go_sem,vcF,pv,vcO,AU,Bh,Option.isSome_some,cO,sB,H,J,L,G,I])
    |(refine OrK.yes rfl ?_ ?_<;>try simp -dsimp only[go_sem,vcO,cO,sB,H,J,L,G,I])
    |refine OrK.no rfl ?_
    |exact OrK.nil
    |(refine Br.mk (λh=>?_) (λh=>?_)<;>simp -dsimp only[go_sem,h,cO,sB,H,J,L,G,I])
    |(refine aA.bor (by first|exact V|exact P2) rfl ?_;simp -dsimp only[go_sem,cO,sB,H,J,L,G,I])
    |((first|refine aC ?_|refine aC9 ?_);try simp -dsimp only[go_sem,cO,sB,H,J,L,G,I])
    |fail)
  all_goals first|omega|exact⟨_,_,rfl,rfl⟩
 .have e:=xL Z;rw[e] at V
  try rw[e]
  refine fnR CdV.l15Bent_ok CdV.l15Bent_nt CdV.l15Bent_rs [.b 0] [sB l y2] λX=>?_;unfold CdV.nO;simp -dsimp only[go_sem,cO,sB,H,J,L,G,I]
  repeat' (first
    |(refine RgK.mk rfl ?_;simp -dsimp only[go_sem,cO,sB,H,J,L,G,I])
    |(refine RgK.ord Tryz.mixed [[],[0],[],[2],[],[4,3],[1,3,5],[6]] [0,2,4] rfl rfl (by decide) (T0:=[1,3,5,6,7]) rfl (n:=5) rfl rfl ?_;simp -dsimp only[go_sem,vcF,pv,vcO,AU,Bh,Option.isSome_some,cO,sB,H,J,L,G,I])
    |(refine OrK.yes rfl ?_ ?_<;>try simp -dsimp only[go_sem,vcO,cO,sB,H,J,L,G,I])
    |refine OrK.no rfl ?_
    |exact OrK.nil
    |(refine Br.mk (λh=>?_) (λh=>?_)<;>simp -dsimp only[go_sem,h,cO,sB,H,J,L,G,I])
    |(refine aA.bor (by first|exact V|exact P2) rfl ?_;simp -dsimp only[go_sem,cO,sB,H,J,L,G,I])
    |((first|refine aC ?_|refine aC9 ?_);try simp -dsimp only[go_sem,cO,sB,H,J,L,G,I])
    |fail)
  all_goals first|omega|exact⟨_,_,rfl,rfl⟩
end
section
variable [Vs.Envs]
attribute [local irreducible] Vs.Fn nxV nxS pkV pkS ptN crd dW dtF lH run wO
open Go.Vs.Q in
def CdV.zC:aF:=s [o 2 (.alloc [.v (.slice none 0 0),.v (.slice none 0 0)]),mn 3,o 4 (.alloc [.v (.int .i64 (0)),.v (.int .i64 (0))])] [0,2,4]<|s [m 7 0,o 8 (.call (.func F.kU) [7,(k 6)] [0]),c 9 F.uJ [8],o 5 (.alloc [.v (.slice none 0 0),.v (.slice none 0 0)]),⟨none,.store 2 5 9,none⟩]
 [0,2,4,5]<|.seq (s [m 10 0,o 11 (.call (.func F.aV) [10,(k 10)] [0])] [0,2,4,5,11]<|.cond 11 (.region [m 12 0,o 13 (.call (.func F.aDV) [12] [0]),⟨none,.store 2 5 13,none⟩] [0,2,4,5] []) .skip)<|s [m 14 0,o 15 (.call (.func F.bK) [14] [0]),m 6 15] [0,2,4,5,6]<|r
 [lt 16 2 5,m 17 6,m 18 0,o 19 (.call (.func F.sV) [18] [0]),⟨none,.store 2 2 16,none⟩,m 3 17,⟨none,.store 2 4 19,none⟩] [2,3,4] [3000000]<|.ret
theorem CdV.l18Flow_rs:Tryz.f44.results.toList=[.cell 2 37,.tmp 3,.cell 4 41]:=rfl
theorem CdV.l18Flow_nt:Tryz.f44.ntmps=20:=rfl
theorem CdV.l18Flow_ok:wQ Tryz.prog [([[],[],[],[2],[0,3],[1,4],[3,4,5]],[1,2,5])] 44 Tryz.f44 CdV.zC:=⟨Tryz.func44,by kernel_rfl,by decide +kernel⟩
theorem aLm {S:Nat->Prop}{w:World}{x F y z:AV}{v:Value} (h:RC S w (.tup [x,y,z]) v) (G:∀u,RC S w x u->RC S w F u):RC S w (.tup [F,y,z]) v:=by
 cases h with
 | tup _ us hl hr =>
  refine .tup _ us hl λj H=>?_
  match j,H with
  |0,_=>exact G _ (hr 0 (by simp))
  |1,_=>exact hr 1 (by simp)
  |2,_=>exact hr 2 (by simp)
attribute [local go_sem] Int.reduceBEq Int.reduceBNe cC cFd aH Ai Ah Al Aq Ad Af Ac Ae Aa Ab Ao Ar Ay Az Bo Bq Vs.Name.t.injEq Ak AB Vs.Name.b.injEq aW aX bG AA AO AP cFd in
theorem zC (l:List Int) (x:Sr) (J:byt l) (HB:aBO l) (hp:x.p<=100):∃o G L M z,fC o∧okZ G∧G.length<=21∧z.p<=x.p+2000∧Vs.Fn Tryz.prog F.aBm [sB l x] [.ptr (.b 0) 0 0] (.tup [.agg (cO o),.sl 9 (E cS G),.agg [.v (.int .i64 L),.v (.int .i64 M)]]) [some (sB l z)]:=by
 obtain⟨d,V,hb,hf,hg,DD⟩:=zJ l x J 6 (by omega) (by omega);have O:=vK hb (by omega);have hc:=aJK (w:=5) (by omega) O;have hd:bE d:=bQ (w:=5) (by omega) O;have U:=aJ2 d hd;have P1:=one l V J 10 (by omega);have q1:=aQ l V 10;obtain⟨b1,ha⟩:∃b,(pkV l V 10==0)=b:=⟨_,rfl⟩;rw[ha] at P1;generalize pkS l V 10=y2 at *
 cases b1
 .obtain⟨G,y4,I,H,he,Y⟩:=aDq l y2 J (by omega);obtain⟨L,M,z,hz,Z⟩:=gN l y4 J (by omega);refine⟨O0 d,G,L,M,z,dC hc,I,H,by omega,?_⟩;refine Vs.Fn.asB (r:=.tup [.agg [.sl 1 (E cD (T0 d)),.v (.slice none 0 0)],.sl 9 (E cS G),.agg [.v (.int .i64 L),.v (.int .i64 M)]]) ?_ rfl λS w v h=>aLm h λu hu=>aHr hu (λ_ h=>h) λu hu=>aHs hu;refine fnR CdV.l18Flow_ok CdV.l18Flow_nt CdV.l18Flow_rs [.b 0] [sB l z] λX=>?_;unfold CdV.zC;simp -dsimp only[go_sem,cO,cS,sB,cO]
  repeat' (first
    |(refine RgK.mk rfl ?_;simp -dsimp only[go_sem,cO,cS,sB,cO])
    |(refine RgK.ord Tryz.mixed [[],[],[],[2],[0,3],[1,4],[3,4,5]] [1,2,5] rfl rfl (by decide) (T0:=[0,3,4,6]) rfl (n:=4) rfl rfl ?_;simp -dsimp only[go_sem,vcF,pv,vcO,AU,Bh,Option.isSome_some,cO,cS,sB,cO])
    |(refine OrK.yes rfl ?_ ?_<;>try simp -dsimp only[go_sem,vcO,cO,cS,sB,cO])
    |refine OrK.no rfl ?_
    |exact OrK.nil
    |(refine Br.mk (λh=>?_) (λh=>?_)<;>simp -dsimp only[go_sem,h,cO,cS,sB,cO])
    |(refine aA.bor (by first|exact DD|exact P1|exact Y|exact Z) rfl ?_;simp -dsimp only[go_sem,cO,cS,sB,cO])
    |(refine aA.flat (by first|exact U) rfl ?_;simp -dsimp only[go_sem,cO,cS,sB,cO])
    |(refine aA.pure (by first|exact U) ?_;simp -dsimp only[go_sem,cO,cS,sB,cO])
    |((first|refine aC ?_|refine aC9 ?_);try simp -dsimp only[go_sem,cO,cS,sB,cO])
    |fail)
  all_goals first|omega|exact⟨_,_,rfl,rfl⟩
 .obtain⟨o,y3,ho,hj,DB⟩:=nO l y2 J HB (by omega);obtain⟨G,y4,I,H,he,Y⟩:=aDq l y3 J (by omega);obtain⟨L,M,z,hz,Z⟩:=gN l y4 J (by omega);refine⟨o,G,L,M,z,ho,I,H,by omega,?_⟩;refine fnR CdV.l18Flow_ok CdV.l18Flow_nt CdV.l18Flow_rs [.b 0] [sB l z] λX=>?_;unfold CdV.zC;simp -dsimp only[go_sem,cO,cS,sB,cO]
  repeat' (first
    |(refine RgK.mk rfl ?_;simp -dsimp only[go_sem,cO,cS,sB,cO])
    |(refine RgK.ord Tryz.mixed [[],[],[],[2],[0,3],[1,4],[3,4,5]] [1,2,5] rfl rfl (by decide) (T0:=[0,3,4,6]) rfl (n:=4) rfl rfl ?_;simp -dsimp only[go_sem,vcF,pv,vcO,AU,Bh,Option.isSome_some,cO,cS,sB,cO])
    |(refine OrK.yes rfl ?_ ?_<;>try simp -dsimp only[go_sem,vcO,cO,cS,sB,cO])
    |refine OrK.no rfl ?_
    |exact OrK.nil
    |(refine Br.mk (λh=>?_) (λh=>?_)<;>simp -dsimp only[go_sem,h,cO,cS,sB,cO])
    |(refine aA.bor (by first|exact DD|exact P1|exact Y|exact Z|exact DB) rfl ?_;simp -dsimp only[go_sem,cO,cS,sB,cO])
    |(refine aA.flat (by first|exact U) rfl ?_;simp -dsimp only[go_sem,cO,cS,sB,cO])
    |(refine aA.pure (by first|exact U) ?_;simp -dsimp only[go_sem,cO,cS,sB,cO])
    |((first|refine aC ?_|refine aC9 ?_);try simp -dsimp only[go_sem,cO,cS,sB,cO])
    |fail)
  all_goals first|omega|exact⟨_,_,rfl,rfl⟩
theorem aNa (l:List Int) (U:byt l) (O:aBO l):∃o u G H,fC o∧okZ u∧u.length<=21∧Fz F.fP [.sl 1 (E cU l)] (.tup [.agg (cO o),.sl 9 (E cS u),.agg [.v (.int .i64 G),.v (.int .i64 H)]]):=by
 obtain⟨o,u,G,H,z,V,J,I,Y,L⟩:=zC l ⟨0,0⟩ U O (by dsimp only;omega);have M:=aDg l;refine⟨o,u,G,H,V,J,I,?_⟩;refine fn0 Cd.s_DrawControlsAlong_k λX=>?_
 repeat' first|simp -dsimp only[go_sem,Int.reduceBEq,Int.reduceBNe,cC,cO,cS,cFd,aH,Ai,Ah,Al,Aq,Ad,Af,Ac,Ae,Aa,Ab,Ao,Ar,Ay,Az,Bo,Bq,Vs.Name.t.injEq,Ak,AB,Vs.Name.b.injEq,aW,aX,bG,sB,AA,AO,AP,cO]|apply Br.mk<;>intro h<;>try simp -dsimp only[h]|refine aA.bor (by first|exact L) rfl ?_|refine aA.own (by first|exact M) rfl ?_|refine aC ?_|refine aC9 ?_|fail
 all_goals first|exact⟨_,_,rfl,rfl⟩
end
end Go.Proofs.YtmiiohemehacjaaGreatDoor
