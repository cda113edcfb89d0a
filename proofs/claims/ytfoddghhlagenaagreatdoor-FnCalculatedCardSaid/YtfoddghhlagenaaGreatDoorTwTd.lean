/- Cards that are drawn for a calculation. -/
import Derived.Test.YtfoddghhlagenaaGreatDoorTwTc
import Derived.Test.YtfoddghhlagenaaGreatDoorTwBp
import Derived.Test.YtfoddghhlagenaaGreatDoorTwBb
set_option linter.all false
set_option maxHeartbeats 8000000
namespace Go.Proofs.YtfoddghhlagenaaGreatDoor
open Go.Vs
variable [Vs.Envs]
attribute [local irreducible] Vs.Fn nxV nxS pkV pkS ptN dtF kQ hoF hoR
attribute [local go_sem] Int.reduceBEq Int.reduceBNe aJ List.replicate_succ List.replicate_zero List.flatten_cons List.flatten_nil List.cons_append List.nil_append List.set_cons_zero List.set_cons_succ List.length_cons List.length_nil List.length_set List.mem_singleton List.mem_cons List.not_mem_nil or_false false_or Vs.Name.t.injEq List.getD_cons_zero List.getD_cons_succ bW bX eF List.append_nil List.flatMap_cons List.flatMap_nil Int.reduceAdd Int.reduceSub
theorem aB.yF {P:Program}{f:FuncId}{hin:List Blk}{ys:List AV}{L:List Vs.Name}{d:Option Nat}{σ:St}{ns:List Vs.Name}{K:St->Prop}{t:Tag K}{r:AV}{hout:List (Option Blk)} (hfn:Vs.Fn P f hin ys r hout) (hfr:iC (d.getD 0) ns.length hout.length σ=true)
  (hK:K ⟨put d (rn (phi ns (d.getD 0) hout.length) r) σ.s,sH σ.h ns (d.getD 0) hout true L⟩):aB P f hin ys L d σ ns K t:=
 ⟨r,hout,true,hfn,λh=>(by cases h),hfr,hK⟩
theorem Ec {α:Type} (c:α->List AV) (x:α) (r:List α):E c (x::r)=c x::E c r:=rfl
theorem En {α:Type} (c:α->List AV):E c ([]:List α)=[]:=rfl
def gT (p0 p1 p2 q0 q1 q2:Int):Nat->List Int
 |0=>[0,0,0,0,0,0,0,0,0,0,0,0,0,0]
 |1=>[p0,0,0,q0,0,0,0,0,0,0,0,0,0,0]
 |2=>[p0,p1,0,q0,q1,0,0,0,0,0,0,0,0,0]
 |_=>[p0,p1,p2,q0,q1,q2,0,0,0,0,0,0,0,0]
theorem aAs {u:List Int} (h:u.length=3):∃a b c,u=[a,b,c]:=by
 match u,h with
 | [a,b,c],_=>exact⟨a,b,c,rfl⟩
theorem tF (p0 p1 p2 q0 q1 q2:Int) (k:Nat):(gT p0 p1 p2 q0 q1 q2 k).length=14:=by
 unfold gT;split<;>rfl
open Go.Vs.Q in
def CdV.fV:aD:=s [o 2 (.alloc [.v (.slice none 0 0)])] [0,2]<|s [o 9 (.mk 1 8 [.v (.int .i64 (0))] (k 14)),o 10 (.build [.v (.slice none 0 0)] [(0,1,9)]),o 3 (.alloc [.v (.slice none 0 0)]),⟨none,.store 1 3 10,none⟩] [0,2,3]<|s [m 12 0,o 13 (.call (.func F.aF) [12,(k 130)] [0]),o 14 (.bin .sub 13
 (k 30)),c 15 F.lX [14,(k 3)],m 11 15,ex 16 11 0,ex 17 11 1,m 4 16,m 5 17] [0,2,3,4]<|s [m 19 0,o 20 (.call (.func F.aF) [19,(k 60)] [0]),o 21 (.bin .sub 20 (k 10)),c 22 F.lX [21,(k 3)],m 18 22,ex 23 18 0,ex 24 18 1,m 6 23,m 7 24] [0,2,3,4,6]<|.seq (s [mi 8 0]
 [0,2,3,4,6,8]<|.block 0 (.loop (.seq (s [m 25 8,o 26 (.bin .lss 25 (k 3))] [0,2,3,4,6,8,26]<|.cond 26 .skip (.exit 0))<|.seq (.block 1 (r [fa 29 0 3,lf 30 1 29,m 31 8,m 32 4,m 33 8,ix 34 1 32 33,lf 35 1 34,ix 36 1 30 31,⟨none,.store 1 36 35,none⟩] [0,2,3,4,6,8] [29,31,30,32,33,34,35]<|.region [fa 37
 0 3,lf 38 1 37,m 39 8,o 40 (.bin .add (k 3) 39),m 41 6,m 42 8,ix 43 1 41 42,lf 44 1 43,ix 45 1 38 40,⟨none,.store 1 45 44,none⟩] [0,2,3,4,6,8] [37,39,38,40,41,42,43,44]))<|.region [m 27 8,ad 28 27 1,m 8 28] [0,2,3,4,6,8] [])))<|.seq (s [m 46 0,o 47 (.call (.func F.aM) [46,(k 16)]
 [0])] [0,2,3,47]<|.cond 47 (.region [fa 48 0 3,lf 49 1 48,m 50 0,o 51 (.call (.func F.aF) [50,(k 14)] [0]),m 52 0,o 53 (.call (.func F.aF) [52,(k 16)] [0]),ix 54 1 49 51,⟨none,.store 1 54 53,none⟩] [2,3] [3000000]) .skip)<|s [lt 55 1 3,⟨none,.store 1 2 55,none⟩]
 [2]<|.ret
theorem CdV.l14DrawCard_rs:Tryz.f23.results.toList=[.cell 2 26]:=rfl
theorem CdV.l14DrawCard_nt:Tryz.f23.ntmps=56:=rfl
theorem CdV.l14DrawCard_ok:lI Tryz.prog [([[],[0],[],[2],[],[4,3],[1,3,5],[6,5]],[0,2,4])] 23 Tryz.f23 CdV.fV:=⟨Tryz.func23,by kernel_rfl,by decide +kernel⟩
theorem fV (l:List Int) (x:Sr) (hl:byt l) (hp:x.p<=3000):∃c z,c.length=14∧z.p<=x.p+10∧Vs.Fn Tryz.prog F.fB [sB l x] [.ptr (.b 0) 0 0] (.agg (cC c)) [some (sB l z)]:=by
 have P1:=pick l x hl 130 (by omega)
 have h1:=bC hl x (n:=130) (by omega)
 have q1:=aR l x 130
 generalize pkV l x 130=v1 at *
 generalize pkS l x 130=y1 at *
 have wa:IntKind.i64.wrap (v1-30)=v1-30:=aG (by omega) (by omega)
 have PA:=xJ (v1-30) 3 (by omega) (by omega) (by omega) (by omega)
 have P2:=pick l y1 hl 60 (by omega)
 have h2:=bC hl y1 (n:=60) (by omega)
 have q2:=aR l y1 60
 generalize pkV l y1 60=v2 at *
 generalize pkS l y1 60=y2 at *
 have wb:IntKind.i64.wrap (v2-10)=v2-10:=aG (by omega) (by omega)
 have PB:=xJ (v2-10) 3 (by omega) (by omega) (by omega) (by omega)
 obtain⟨p0,p1,p2,hp3⟩:=aAs (mF 3 (v1-30))
 obtain⟨q0,q1x,q2x,hq3⟩:=aAs (mF 3 (v2-10))
 rw[hp3] at PA
 rw[hq3] at PB
 have w0:IntKind.i64.wrap (3+((0:Nat):Int))=3:=rfl
 have w1:IntKind.i64.wrap (3+((1:Nat):Int))=4:=rfl
 have w2:IntKind.i64.wrap (3+((2:Nat):Int))=5:=rfl
 generalize((((v1-30).natAbs/10 ^ 3:Nat):Int)==0)=g1 at *
 generalize((((v2-10).natAbs/10 ^ 3:Nat):Int)==0)=g2 at *
 have P3:=one l y2 hl 16 (by omega)
 have q3:=aR l y2 16
 obtain⟨b3,hb3⟩:∃b,(pkV l y2 16==0)=b:=⟨_,rfl⟩
 rw[hb3] at P3
 generalize pkS l y2 16=y3 at *
 cases b3
 .refine⟨gT p0 p1 p2 q0 q1x q2x 3,y3,tF _ _ _ _ _ _ 3,by omega,?_⟩
  refine CdV.l14DrawCard_ok.fn Tryz.mixed (hin:=[sB l x]) _ _ [.b 0] [sB l y3] CdV.l14DrawCard_nt CdV.l14DrawCard_rs rfl (by simp) rfl (by simp) λX=>?_
  unfold CdV.fV
  repeat' first|simp -dsimp only[go_sem,cC,sB,wa,wb,w0,w1,w2]|apply Br.mk<;>intro h<;>try simp -dsimp only[h]|refine aB.bor (by first|exact P1|exact P2|exact P3) rfl ?_|refine aB.c (by first|exact PA|exact PB) ?_|refine aC ?_|refine aC9 ?_|fail
  refine bA.at (aAi Tryz.mixed _) (X:={k:Nat // k<=3}) (λk=>[(8,.v (.int .i64 (k.1:Nat)))]) (λk=>[(.t 9 0,.arr 1 (E cI (gT p0 p1 p2 q0 q1x q2x k.1)) false)]) (λk=>3-k.1) ⟨0,by omega⟩ ?_ ?_
  .simp[Vs.LeL,Vs.look,Vs.aA,Vs.bL,Vs.aO,Vs.hset,Vs.aP,gT,Vs.E,cI,sB]
  .rintro⟨k,hk⟩
   try dsimp only at hk
   have hk3:k=0∨k=1∨k=2∨k=3:=by omega
   rcases hk3 with rfl|rfl|rfl|rfl
   .have hw:IntKind.i64.wrap (((0:Nat):Int)+1)=((1:Nat):Int):=rfl
    simp -dsimp only[go_sem,cC,sB,wa,wb,w0,w1,w2,gT,Ec,En,cI,hw]
    refine Br.mk (λhc=>?_) λhc=>?_
    .try simp -dsimp only[go_sem,cC,sB,wa,wb,w0,w1,w2,gT,Ec,En,cI,hw]
     repeat' first|simp -dsimp only[go_sem,cC,sB,wa,wb,w0,w1,w2,gT,Ec,En,cI,hw]|apply Br.mk<;>intro h<;>try simp -dsimp only[h]|refine aC ?_|refine aC9 ?_|fail
     all_goals first|omega|(refine⟨⟨1,by omega⟩,?_,by simp only;omega⟩;simp[Vs.LeL,Vs.look,Vs.aA,Vs.bL,Vs.aO,Vs.hset,Vs.aP,gT,Vs.E,cI,sB];done)
    .exact absurd hc (by decide)
   .have hw:IntKind.i64.wrap (((1:Nat):Int)+1)=((2:Nat):Int):=rfl
    simp -dsimp only[go_sem,cC,sB,wa,wb,w0,w1,w2,gT,Ec,En,cI,hw]
    refine Br.mk (λhc=>?_) λhc=>?_
    .try simp -dsimp only[go_sem,cC,sB,wa,wb,w0,w1,w2,gT,Ec,En,cI,hw]
     repeat' first|simp -dsimp only[go_sem,cC,sB,wa,wb,w0,w1,w2,gT,Ec,En,cI,hw]|apply Br.mk<;>intro h<;>try simp -dsimp only[h]|refine aC ?_|refine aC9 ?_|fail
     all_goals first|omega|(refine⟨⟨2,by omega⟩,?_,by simp only;omega⟩;simp[Vs.LeL,Vs.look,Vs.aA,Vs.bL,Vs.aO,Vs.hset,Vs.aP,gT,Vs.E,cI,sB];done)
    .exact absurd hc (by decide)
   .have hw:IntKind.i64.wrap (((2:Nat):Int)+1)=((3:Nat):Int):=rfl
    simp -dsimp only[go_sem,cC,sB,wa,wb,w0,w1,w2,gT,Ec,En,cI,hw]
    refine Br.mk (λhc=>?_) λhc=>?_
    .try simp -dsimp only[go_sem,cC,sB,wa,wb,w0,w1,w2,gT,Ec,En,cI,hw]
     repeat' first|simp -dsimp only[go_sem,cC,sB,wa,wb,w0,w1,w2,gT,Ec,En,cI,hw]|apply Br.mk<;>intro h<;>try simp -dsimp only[h]|refine aC ?_|refine aC9 ?_|fail
     all_goals first|omega|(refine⟨⟨3,by omega⟩,?_,by simp only;omega⟩;simp[Vs.LeL,Vs.look,Vs.aA,Vs.bL,Vs.aO,Vs.hset,Vs.aP,gT,Vs.E,cI,sB];done)
    .exact absurd hc (by decide)
   .have hR:=tF p0 p1 p2 q0 q1x q2x 3
    generalize gT p0 p1 p2 q0 q1x q2x 3=R at *
    simp -dsimp only[go_sem,cC,sB,wa,wb,w0,w1,w2]
    refine Br.mk (λhc=>absurd hc (by decide)) λhc=>?_
    try simp -dsimp only[go_sem,cC,sB,wa,wb,w0,w1,w2]
    have htk:(E cI R).take 14=E cI R:=List.take_of_length_le (by rw[aJ,hR];omega)
    repeat' first|simp -dsimp only[go_sem,cC,sB,wa,wb,w0,w1,w2,htk]|apply Br.mk<;>intro h<;>try simp -dsimp only[h]|refine aB.bor (by first|exact P3) rfl ?_|refine And.intro ?_ (λh=>absurd rfl h)|refine aC ?_|refine aC9 ?_|fail
    all_goals first|omega|exact⟨_,_,rfl,rfl⟩|exact⟨⟨_,_,rfl,rfl⟩,λh=>h rfl⟩
 .have P4:=pick l y3 hl 14 (by omega)
  have h4:=bC hl y3 (n:=14) (by omega)
  have q4:=aR l y3 14
  generalize pkV l y3 14=v4 at *
  generalize pkS l y3 14=y4 at *
  have P5:=pick l y4 hl 16 (by omega)
  have h5:=bC hl y4 (n:=16) (by omega)
  have q5:=aR l y4 16
  generalize pkV l y4 16=v5 at *
  generalize pkS l y4 16=y5 at *
  obtain⟨m,hm⟩:∃m:Nat,v4=m:=⟨v4.toNat,by omega⟩
  subst hm
  refine⟨(gT p0 p1 p2 q0 q1x q2x 3).set m v5,y5,by rw[List.length_set];exact tF _ _ _ _ _ _ 3,by omega,?_⟩
  refine CdV.l14DrawCard_ok.fn Tryz.mixed (hin:=[sB l x]) _ _ [.b 0] [sB l y5] CdV.l14DrawCard_nt CdV.l14DrawCard_rs rfl (by simp) rfl (by simp) λX=>?_
  unfold CdV.fV
  repeat' first|simp -dsimp only[go_sem,cC,sB,wa,wb,w0,w1,w2]|apply Br.mk<;>intro h<;>try simp -dsimp only[h]|refine aB.bor (by first|exact P1|exact P2|exact P3) rfl ?_|refine aB.c (by first|exact PA|exact PB) ?_|refine aC ?_|refine aC9 ?_|fail
  refine bA.at (aAi Tryz.mixed _) (X:={k:Nat // k<=3}) (λk=>[(8,.v (.int .i64 (k.1:Nat)))]) (λk=>[(.t 9 0,.arr 1 (E cI (gT p0 p1 p2 q0 q1x q2x k.1)) false)]) (λk=>3-k.1) ⟨0,by omega⟩ ?_ ?_
  .simp[Vs.LeL,Vs.look,Vs.aA,Vs.bL,Vs.aO,Vs.hset,Vs.aP,gT,Vs.E,cI,sB]
  .rintro⟨k,hk⟩
   try dsimp only at hk
   have hk3:k=0∨k=1∨k=2∨k=3:=by omega
   rcases hk3 with rfl|rfl|rfl|rfl
   .have hw:IntKind.i64.wrap (((0:Nat):Int)+1)=((1:Nat):Int):=rfl
    simp -dsimp only[go_sem,cC,sB,wa,wb,w0,w1,w2,gT,Ec,En,cI,hw]
    refine Br.mk (λhc=>?_) λhc=>?_
    .try simp -dsimp only[go_sem,cC,sB,wa,wb,w0,w1,w2,gT,Ec,En,cI,hw]
     repeat' first|simp -dsimp only[go_sem,cC,sB,wa,wb,w0,w1,w2,gT,Ec,En,cI,hw]|apply Br.mk<;>intro h<;>try simp -dsimp only[h]|refine aC ?_|refine aC9 ?_|fail
     all_goals first|omega|(refine⟨⟨1,by omega⟩,?_,by simp only;omega⟩;simp[Vs.LeL,Vs.look,Vs.aA,Vs.bL,Vs.aO,Vs.hset,Vs.aP,gT,Vs.E,cI,sB];done)
    .exact absurd hc (by decide)
   .have hw:IntKind.i64.wrap (((1:Nat):Int)+1)=((2:Nat):Int):=rfl
    simp -dsimp only[go_sem,cC,sB,wa,wb,w0,w1,w2,gT,Ec,En,cI,hw]
    refine Br.mk (λhc=>?_) λhc=>?_
    .try simp -dsimp only[go_sem,cC,sB,wa,wb,w0,w1,w2,gT,Ec,En,cI,hw]
     repeat' first|simp -dsimp only[go_sem,cC,sB,wa,wb,w0,w1,w2,gT,Ec,En,cI,hw]|apply Br.mk<;>intro h<;>try simp -dsimp only[h]|refine aC ?_|refine aC9 ?_|fail
     all_goals first|omega|(refine⟨⟨2,by omega⟩,?_,by simp only;omega⟩;simp[Vs.LeL,Vs.look,Vs.aA,Vs.bL,Vs.aO,Vs.hset,Vs.aP,gT,Vs.E,cI,sB];done)
    .exact absurd hc (by decide)
   .have hw:IntKind.i64.wrap (((2:Nat):Int)+1)=((3:Nat):Int):=rfl
    simp -dsimp only[go_sem,cC,sB,wa,wb,w0,w1,w2,gT,Ec,En,cI,hw]
    refine Br.mk (λhc=>?_) λhc=>?_
    .try simp -dsimp only[go_sem,cC,sB,wa,wb,w0,w1,w2,gT,Ec,En,cI,hw]
     repeat' first|simp -dsimp only[go_sem,cC,sB,wa,wb,w0,w1,w2,gT,Ec,En,cI,hw]|apply Br.mk<;>intro h<;>try simp -dsimp only[h]|refine aC ?_|refine aC9 ?_|fail
     all_goals first|omega|(refine⟨⟨3,by omega⟩,?_,by simp only;omega⟩;simp[Vs.LeL,Vs.look,Vs.aA,Vs.bL,Vs.aO,Vs.hset,Vs.aP,gT,Vs.E,cI,sB];done)
    .exact absurd hc (by decide)
   .have hR:=tF p0 p1 p2 q0 q1x q2x 3
    generalize gT p0 p1 p2 q0 q1x q2x 3=R at *
    simp -dsimp only[go_sem,cC,sB,wa,wb,w0,w1,w2]
    refine Br.mk (λhc=>absurd hc (by decide)) λhc=>?_
    try simp -dsimp only[go_sem,cC,sB,wa,wb,w0,w1,w2]
    have hRE:(E cI R).length=14:=by rw[aJ,hR]
    have hst:(E cI R).set m [.v (.int .i64 v5)]=E cI (R.set m v5):=by simp[E,cI,List.map_set]
    obtain⟨oldc,hgt⟩:∃y,(E cI R).getD m []=[.v (.int .i64 y)]:=⟨_,jI (show m<R.length by omega)⟩
    have htk2:(E cI (R.set m v5)).take 14=E cI (R.set m v5):=List.take_of_length_le (by rw[aJ,List.length_set,hR];omega)
    repeat' (first
      |(refine RgK.mk rfl ?_;simp -dsimp only[go_sem,cC,sB,wa,wb,w0,w1,w2,hRE,hst,htk2,hgt])
      |(refine RgK.ord Tryz.mixed [[],[0],[],[2],[],[4,3],[1,3,5],[6,5]] [0,2,4] rfl rfl (by decide) (T0:=[1,3,5,6,7]) rfl (n:=5) rfl rfl ?_;simp -dsimp only[go_sem,vcF,pv,vcO,List.map_cons,List.map_nil,Option.isSome_some,cC,sB,wa,wb,w0,w1,w2,hRE,hst,htk2,hgt])
      |(refine OrK.yes rfl ?_ ?_<;>try simp -dsimp only[go_sem,vcO,cC,sB,wa,wb,w0,w1,w2,hRE,hst,htk2,hgt])
      |refine OrK.no rfl ?_
      |exact OrK.nil
      |(refine Br.mk (λh=>?_) (λh=>?_)<;>simp -dsimp only[go_sem,h,cC,sB,wa,wb,w0,w1,w2,hRE,hst,htk2,hgt])
      |(refine aB.bor (by first|exact P3|exact P4|exact P5) rfl ?_;simp -dsimp only[go_sem,cC,sB,wa,wb,w0,w1,w2,hRE,hst,htk2,hgt])
      |(refine And.intro ?_ (λh=>absurd rfl h))
      |(refine aC9 ?_;try simp -dsimp only[go_sem,cC,sB,wa,wb,w0,w1,w2,hRE,hst,htk2,hgt])
      |fail)
    all_goals first|omega|exact⟨_,_,rfl,rfl⟩|exact⟨⟨_,_,rfl,rfl⟩,λh=>h rfl⟩
attribute [local go_sem] cC in
theorem aD0 (l:List Int) (x:Sr) (hl:byt l) (n:Nat) (h0:0<n) (hn:n<=20) (hp:x.p<=2900):∃c z,c.length=n∧z.p<=x.p+8*n+2∧Vs.Fn Tryz.prog F.jP [sB l x] [.ptr (.b 0) 0 0,.v (.int .i64 n)] (.agg [.loc (.b 1) 0 n]) [some (sB l z),some (.arr 1 (E cI c) false)]:=by
 have P1:=one l x hl 8 (by omega)
 have q1:=aR l x 8
 obtain⟨b1,hb1⟩:∃b,(pkV l x 8==0)=b:=⟨_,rfl⟩
 rw[hb1] at P1
 generalize pkS l x 8=y1 at *
 cases b1
 .have DT:=aAT l y1 hl n hn (by omega)
  have hd:=aEn l n y1 []
  have hsz:(kQ (dtF l n y1 []).1).size=n:=by rw[aCB,hd.1];simp
  generalize dtF l n y1 []=D at *
  obtain⟨o,z⟩:=D
  dsimp only at hd hsz DT
  have LC:=aD1 (kQ o) (by omega) (by omega)
  rw[hsz] at LC
  have hcl:=xW (kQ o)
  rw[hsz] at hcl
  generalize kQ o=st at *
  generalize nJ st=cs at *
  refine⟨cs,z,hcl,by omega,?_⟩
  refine fn1 Cd.s_l03Draw_k [.b 0,.t 13 0] [sB l z,.arr 1 (E cI cs) false] λX=>?_
  unfold Cd.jP
  repeat' first|simp -dsimp only[go_sem,sB]|apply Br.mk<;>intro h<;>try simp -dsimp only[h]|refine aB.bor (by first|exact P1|exact DT) rfl ?_|refine aB.own (by first|exact LC) rfl ?_|refine aC ?_|refine aC9 ?_|fail
  all_goals first|omega|exact⟨_,_,rfl,rfl⟩
 .have LD:=zZ l y1 hl n h0 hn (by omega)
  have hd:=nI l n y1 []
  generalize hoF l n y1 []=D at *
  obtain⟨o,z⟩:=D
  dsimp only at hd LD
  simp only[List.length_nil,Nat.zero_add] at hd
  refine⟨o,z,hd.1,by omega,?_⟩
  refine fn1 Cd.s_l03Draw_k [.b 0,.t 9 1] [sB l z,.arr 1 (E cI o) false] λX=>?_
  unfold Cd.jP
  repeat' first|simp -dsimp only[go_sem,sB]|apply Br.mk<;>intro h<;>try simp -dsimp only[h]|refine aB.bor (by first|exact P1|exact LD) rfl ?_|refine aC ?_|refine aC9 ?_|fail
  all_goals first|omega|exact⟨_,_,rfl,rfl⟩
attribute [local go_sem] List.getElem?_cons_zero List.getElem?_cons_succ mid List.map_nil List.map_cons in
theorem aFd (l:List Int) (x:Sr) (hl:byt l) (hp:x.p<=2800):∃c z,c.length<=100∧z.p<=x.p+70∧Vs.Fn Tryz.prog F.iT [sB l x] [.ptr (.b 0) 0 0] (.agg (cC c)) [some (sB l z)]:=by
 have P1:=pick l x hl 6 (by omega)
 have h1:=bC hl x (n:=6) (by omega)
 have q1:=aR l x 6
 generalize pkV l x 6=v1 at *
 generalize pkS l x 6=y1 at *
 obtain⟨m,hm⟩:∃m:Nat,v1=m:=⟨v1.toNat,by omega⟩
 subst hm
 have w1:IntKind.i64.wrap (1+(m:Int))=((1+m:Nat):Int):=by rw[aG (by omega) (by omega)];omega
 obtain⟨c,y2,hcl,hy2,DC⟩:=aD0 l y1 hl (1+m) (by omega) (by omega) (by omega)
 have hrl:(E cI c).length=1+m:=by rw[aJ,hcl]
 have htk:(E cI c).take (1+m)=E cI c:=List.take_of_length_le (by omega)
 have P3:=one l y2 hl 12 (by omega)
 have q3:=aR l y2 12
 obtain⟨b3,hb3⟩:∃b,(pkV l y2 12==0)=b:=⟨_,rfl⟩
 rw[hb3] at P3
 generalize pkS l y2 12=y3 at *
 cases b3
 .refine⟨c,y3,by omega,by omega,?_⟩
  refine fn1 Cd.s_l03Bent_k [.b 0] [sB l y3] λX=>?_
  unfold Cd.iT
  repeat' first|simp -dsimp only[go_sem,cC,sB,w1,hrl,htk]|apply Br.mk<;>intro h<;>try simp -dsimp only[h]|refine aB.bor (by first|exact P1|exact DC|exact P3) rfl ?_|refine aC ?_|refine aC9 ?_|fail
  all_goals first|omega|exact⟨_,_,rfl,rfl⟩
 .obtain⟨xx,c',z,hx,hl',hz,SP⟩:=jD l y3 hl c (by omega) (by omega)
  have SP:=SP [] [] (by simp)
  simp only[mid,List.map_nil,List.nil_append,List.length_nil] at SP
  rw[hcl] at SP hx
  rcases hx with rfl|⟨c2,rfl,hc2⟩
  .have hrl2:(E cI c').length=1+m:=by rw[aJ];omega
   have htk2:(E cI c').take (1+m)=E cI c':=List.take_of_length_le (by omega)
   refine⟨c',z,by omega,by omega,?_⟩
   refine fn1 Cd.s_l03Bent_k [.b 0] [sB l z] λX=>?_
   unfold Cd.iT
   repeat' first|simp -dsimp only[go_sem,cC,sB,w1,hrl,htk,hrl2,htk2]|apply Br.mk<;>intro h<;>try simp -dsimp only[h]|refine aB.yF (by exact SP) rfl ?_|refine aB.bor (by first|exact P1|exact DC|exact P3) rfl ?_|refine aC ?_|refine aC9 ?_|fail
   all_goals first|omega|exact⟨_,_,rfl,rfl⟩
  .refine⟨c2,z,by omega,by omega,?_⟩
   refine fn1 Cd.s_l03Bent_k [.b 0] [sB l z] λX=>?_
   unfold Cd.iT
   repeat' first|simp -dsimp only[go_sem,cC,sB,w1,hrl,htk]|apply Br.mk<;>intro h<;>try simp -dsimp only[h]|refine aB.yF (by exact SP) rfl ?_|refine aB.bor (by first|exact P1|exact DC|exact P3) rfl ?_|refine aC ?_|refine aC9 ?_|fail
   all_goals first|omega|exact⟨_,_,rfl,rfl⟩
end Go.Proofs.YtfoddghhlagenaaGreatDoor
