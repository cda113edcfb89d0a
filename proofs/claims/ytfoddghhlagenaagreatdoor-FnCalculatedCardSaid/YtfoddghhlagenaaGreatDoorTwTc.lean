/- Kinds and fields that are drawn. -/
import Derived.Test.YtfoddghhlagenaaGreatDoorTwPc
import Derived.Test.YtfoddghhlagenaaGreatDoorVuX
set_option linter.all false
set_option maxHeartbeats 8000000
namespace Go.Proofs.YtfoddghhlagenaaGreatDoor
open Go.Vs
variable [Vs.Envs]
attribute [local irreducible] Vs.Fn nxV nxS pkV pkS ptN dtF kQ
attribute [local go_sem] Int.reduceBEq Int.reduceBNe cC aJ List.replicate_succ List.replicate_zero List.flatten_cons List.flatten_nil List.cons_append List.nil_append List.set_cons_zero List.set_cons_succ List.length_cons List.length_nil List.length_set List.mem_singleton List.mem_cons List.not_mem_nil or_false false_or Vs.Name.t.injEq List.getD_cons_zero List.getD_cons_succ bW bX eF List.append_nil List.flatMap_cons List.flatMap_nil Int.reduceAdd Int.reduceSub
theorem aB.borM {P:Program}{f:FuncId}{b:Blk}{ys:List AV}{L:List Vs.Name}{d:Option Nat}{σ:St}{n:Vs.Name}{K:St->Prop}{t:Tag K}{r:AV}{hout:List (Option Blk)} (hfn:Vs.Fn P f [b] ys r hout) (hfr:iC (d.getD 0) 1 hout.length σ=true)
  (hK:K ⟨put d (rn (phi [n] (d.getD 0) hout.length) r) σ.s,sH σ.h [n] (d.getD 0) hout true L⟩):aB P f [b] ys L d σ [n] K t:=
 ⟨r,hout,true,hfn,λh=>(by cases h),hfr,hK⟩
open Go.Vs.Q in
def CdV.l02DrawField:aD:=s [o 4 (.alloc [.v (.int .i64 (0)),.v (.int .i64 (0))])] [0,1,4]<|.seq (s [m 7 0,o 8 (.call (.func F.aM) [7,(k 12)] [0])] [0,1,4,8]<|.cond 8 (s [m 9 0,m 10 1,o 11 (.bslice 1 6 [.v (.int .i64 (0))] [(0,(k (-1))),(1,(k 0)),(2,(k 1)),(3,10),(4,(k 9223372036854775807)),(5,(k
 (-9223372036854775808)))]),o 12 (.call (.func F.bH) [9,11] [0]),m 5 12] [0,1,4,5]<|s [m 13 5,m 14 0,m 15 1,m 16 1,ad 17 16 1,o 18 (.bslice 1 5 [.v (.int .i64 (0))] [(0,(k 0)),(1,(k 1)),(2,15),(3,17),(4,(k 9223372036854775807))]),o 19 (.call (.func F.bH) [14,18]
 [0]),o 20 (.build [.v (.int .i64 (0)),.v (.int .i64 (0))] [(0,1,13),(1,1,19)]),⟨none,.store 2 4 20,none⟩] [4]<|.ret) .skip)<|s [m 21 0,m 22 1,c 23 F.kD [(k 1),22],o 24 (.call (.func F.aF) [21,23] [0]),m 6 24] [0,1,4,6]<|s [m 25 6,m 26 6,ad 27 26 1,m 28 0,m 29 1,m 30 6,o 31
 (.bin .sub 29 30),c 32 F.kD [(k 1),31],o 33 (.call (.func F.aF) [28,32] [0]),o 34 (.bin .add 27 33),o 35 (.build [.v (.int .i64 (0)),.v (.int .i64 (0))] [(0,1,25),(1,1,34)]),⟨none,.store 2 4 35,none⟩] [4]<|.ret
theorem CdV.l02DrawField_k:CK 59 Tryz.f59 CdV.l02DrawField 36 [.cell 4 28]:=ck Tryz.func59
attribute [go_sem] CdV.l02DrawField
open Go.Vs.Q in
def CdV.nG:aD:=s [o 2 (.alloc [.v (.int .i64 (0)),.v (.int .i64 (0))]),o 3 (.alloc [.v (.int .i64 (0)),.v (.int .i64 (0))])] [0,2,3]<|s [o 6 (.build [.v (.int .i64 (0)),.v (.int .i64 (0))] [(1,1,(k 3))]),o 4 (.alloc [.v (.int .i64 (0)),.v (.int .i64 (0))]),⟨none,.store 2 4 6,none⟩] [0,2,3,4]<|s [o 7 (.build [.v
 (.int .i64 (0)),.v (.int .i64 (0))] [(0,1,(k 3)),(1,1,(k 6))]),o 5 (.alloc [.v (.int .i64 (0)),.v (.int .i64 (0))]),⟨none,.store 2 5 7,none⟩] [0,2,3,4,5]<|.seq (s [m 8 0,o 9 (.call (.func F.aM) [8,(k 10)] [0])] [0,2,3,4,5,9]<|.cond 9 (r [m 10 0,o 11 (.call (.func F.l6)
 [10,(k 14)] [0]),lt 12 2 5,⟨none,.store 2 2 11,none⟩,⟨none,.store 2 3 12,none⟩] [2,3] [3000000]<|.ret) .skip)<|.seq (s [m 13 0,o 14 (.call (.func F.aM) [13,(k 10)] [0])] [0,2,3,4,5,14]<|.cond 14 (r [m 15 0,o 16 (.call (.func F.aF) [15,(k 2)] [0]),o 17 (.bin .add (k
 12) 16),o 18 (.build [.v (.int .i64 (0)),.v (.int .i64 (0))] [(1,1,17)]),lt 19 2 5,⟨none,.store 2 2 18,none⟩,⟨none,.store 2 3 19,none⟩] [2,3] [3000000]<|.ret) .skip)<|r [lt 20 2 4,lt 21 2 5,⟨none,.store 2 2 20,none⟩,⟨none,.store 2 3 21,none⟩] [2,3] [3000000]<|.ret
theorem CdV.l14Two_rs:Tryz.f26.results.toList=[.cell 2 28,.cell 3 28]:=rfl
theorem CdV.l14Two_nt:Tryz.f26.ntmps=22:=rfl
theorem CdV.l14Two_ok:lI Tryz.prog [([[],[0],[],[1],[2,3]],[0]),([[],[0],[1],[2],[],[1,3],[4,5]],[0]),([[],[],[0],[1,2]],[])] 26 Tryz.f26 CdV.nG:=⟨Tryz.func26,by kernel_rfl,by decide +kernel⟩
theorem aCf (a b:Int):Fz F.kD [.v (.int .i64 a),.v (.int .i64 b)] (.v (.int .i64 (if a>b then a else b))):=by
 refine fn0 Cd.s_l00Max_k λX=>?_
 repeat' first|simp -dsimp only[go_sem]|apply Br.mk<;>intro h<;>try simp -dsimp only[h]|refine aC ?_|refine aC9 ?_|fail
 all_goals(first|(refine fT ?_;simp_all;done)|(simp_all;done)|(simp_all;omega))
theorem pX (l:List Int) (x:Sr) (hl:byt l) (hp:x.p<=2900):∃k z,z.p<=x.p+8∧Vs.Fn Tryz.prog F.bY [sB l x] [.ptr (.b 0) 0 0] (.v (.int .i64 k)) [some (sB l z)]:=by
 have P1:=one l x hl 16 (by omega)
 have q1:=aR l x 16
 obtain⟨b1,hb1⟩:∃b,(pkV l x 16==0)=b:=⟨_,rfl⟩
 rw[hb1] at P1
 generalize pkS l x 16=y1 at *
 cases b1
 .have P2:=pick l y1 hl 4 (by omega)
  have h2:=bC hl y1 (n:=4) (by omega)
  have q2:=aR l y1 4
  generalize pkV l y1 4=v2 at *
  generalize pkS l y1 4=y2 at *
  have w1:IntKind.i64.wrap (1+v2)=1+v2:=aG (by omega) (by omega)
  refine⟨1+v2,y2,by omega,?_⟩
  refine fn1 Cd.s_l14DrawKind_k [.b 0] [sB l y2] λX=>?_
  unfold Cd.bY
  repeat' first|simp -dsimp only[go_sem,sB,w1]|apply Br.mk<;>intro h<;>try simp -dsimp only[h]|refine aB.bor (by first|exact P1|exact P2) rfl ?_|refine aC ?_|refine aC9 ?_|fail
  all_goals first|omega|exact⟨_,_,rfl,rfl⟩
 .have A1:=among l y1 hl [0,5,-1] (by omega) (by simp) (by simp)
  have q1a:=aR l y1 (([0,5,-1]:List Int).length:Nat)
  generalize([0,5,-1]:List Int).getD _ 0=v2 at *
  generalize pkS l y1 (([0,5,-1]:List Int).length:Nat)=z at *
  refine⟨v2,z,by omega,?_⟩
  refine fn1 Cd.s_l14DrawKind_k [.b 0] [sB l z] λX=>?_
  unfold Cd.bY
  repeat' first|simp -dsimp only[go_sem,sB]|apply Br.mk<;>intro h<;>try simp -dsimp only[h]|refine aB.bor (by first|exact P1) rfl ?_|refine aB.borM (by first|exact A1) rfl ?_|refine aC ?_|refine aC9 ?_|fail
  all_goals first|omega|exact⟨_,_,rfl,rfl⟩
theorem vU (l:List Int) (x:Sr) (hl:byt l) (hp:x.p<=2900):∃f0 f1 z,z.p<=x.p+8∧Vs.Fn Tryz.prog F.l6 [sB l x] [.ptr (.b 0) 0 0,.v (.int .i64 14)] (.agg [.v (.int .i64 f0),.v (.int .i64 f1)]) [some (sB l z)]:=by
 have P1:=one l x hl 12 (by omega)
 have q1:=aR l x 12
 obtain⟨b1,hb1⟩:∃b,(pkV l x 12==0)=b:=⟨_,rfl⟩
 rw[hb1] at P1
 generalize pkS l x 12=y1 at *
 cases b1
 .have P2:=pick l y1 hl 14 (by omega)
  have h2:=bC hl y1 (n:=14) (by omega)
  have q2:=aR l y1 14
  generalize pkV l y1 14=v2 at *
  generalize pkS l y1 14=y2 at *
  have M1:=aCf 1 14
  rw[show(if(1:Int)>14 then(1:Int) else 14)=14 from rfl] at M1
  have w5:IntKind.i64.wrap (14-v2)=14-v2:=aG (by omega) (by omega)
  have M2:=aCf 1 (14-v2)
  rw[show(if(1:Int)>14-v2 then(1:Int) else 14-v2)=14-v2 by split<;>omega] at M2
  have P3:=pick l y2 hl (14-v2) (by omega)
  have q3:=aR l y2 (14-v2)
  generalize pkV l y2 (14-v2)=v3 at *
  generalize pkS l y2 (14-v2)=z at *
  refine⟨v2,IntKind.i64.wrap (IntKind.i64.wrap (v2+1)+v3),z,by omega,?_⟩
  refine fn1 CdV.l02DrawField_k [.b 0] [sB l z] λX=>?_
  unfold CdV.l02DrawField
  repeat' first|simp -dsimp only[go_sem,sB,w5]|apply Br.mk<;>intro h<;>try simp -dsimp only[h]|refine aB.bor (by first|exact P1|exact P2|exact P3) rfl ?_|refine aB.c (by first|exact M1|exact M2) ?_|refine aC ?_|refine aC9 ?_|fail
  all_goals first|omega|exact⟨_,_,rfl,rfl⟩
 .have A1:=among l y1 hl [-1,0,1,14,9223372036854775807,-9223372036854775808] (by omega) (by simp) (by simp)
  have q1a:=aR l y1 (([-1,0,1,14,9223372036854775807,-9223372036854775808]:List Int).length:Nat)
  generalize([-1,0,1,14,9223372036854775807,-9223372036854775808]:List Int).getD _ 0=v2 at *
  generalize pkS l y1 (([-1,0,1,14,9223372036854775807,-9223372036854775808]:List Int).length:Nat)=y2 at *
  have A2:=among l y2 hl [0,1,14,15,9223372036854775807] (by omega) (by simp) (by simp)
  have q2a:=aR l y2 (([0,1,14,15,9223372036854775807]:List Int).length:Nat)
  generalize([0,1,14,15,9223372036854775807]:List Int).getD _ 0=v3 at *
  generalize pkS l y2 (([0,1,14,15,9223372036854775807]:List Int).length:Nat)=z at *
  have w6:IntKind.i64.wrap (14+1)=15:=rfl
  refine⟨v2,v3,z,by omega,?_⟩
  refine fn1 CdV.l02DrawField_k [.b 0] [sB l z] λX=>?_
  unfold CdV.l02DrawField
  repeat' first|simp -dsimp only[go_sem,sB,w6]|apply Br.mk<;>intro h<;>try simp -dsimp only[h]|refine aB.bor (by first|exact P1) rfl ?_|refine aB.borM (by first|exact A1|exact A2) rfl ?_|refine aC ?_|refine aC9 ?_|fail
  all_goals first|omega|exact⟨_,_,rfl,rfl⟩
theorem aDX (l:List Int) (x:Sr) (hl:byt l) (hp:x.p<=2800):∃f0 f1 z,z.p<=x.p+12∧Vs.Fn Tryz.prog F.jV [sB l x] [.ptr (.b 0) 0 0] (.agg [.v (.int .i64 f0),.v (.int .i64 f1)]) [some (sB l z)]:=by
 have P1:=one l x hl 12 (by omega)
 have q1:=aR l x 12
 obtain⟨b1,hb1⟩:∃b,(pkV l x 12==0)=b:=⟨_,rfl⟩
 rw[hb1] at P1
 generalize pkS l x 12=y1 at *
 cases b1
 .have P2:=pick l y1 hl 5 (by omega)
  have h2:=bC hl y1 (n:=5) (by omega)
  have q2:=aR l y1 5
  generalize pkV l y1 5=v2 at *
  generalize pkS l y1 5=y2 at *
  have P3:=pick l y2 hl 4 (by omega)
  have h3:=bC hl y2 (n:=4) (by omega)
  have q3:=aR l y2 4
  generalize pkV l y2 4=v3 at *
  generalize pkS l y2 4=y3 at *
  have w1:IntKind.i64.wrap (6+v2)=6+v2:=aG (by omega) (by omega)
  have w2:IntKind.i64.wrap (11+v3)=11+v3:=aG (by omega) (by omega)
  refine⟨6+v2,11+v3,y3,by omega,?_⟩
  refine fn1 Cd.s_l14To_k [.b 0] [sB l y3] λX=>?_
  unfold Cd.jV
  repeat' first|simp -dsimp only[go_sem,sB,w1,w2]|apply Br.mk<;>intro h<;>try simp -dsimp only[h]|refine aB.bor (by first|exact P1|exact P2|exact P3) rfl ?_|refine aC ?_|refine aC9 ?_|fail
  all_goals first|omega|exact⟨_,_,rfl,rfl⟩
 .obtain⟨f0,f1,z,q2,DF⟩:=vU l y1 hl (by omega)
  refine⟨f0,f1,z,by omega,?_⟩
  refine fn1 Cd.s_l14To_k [.b 0] [sB l z] λX=>?_
  unfold Cd.jV
  repeat' first|simp -dsimp only[go_sem,sB]|apply Br.mk<;>intro h<;>try simp -dsimp only[h]|refine aB.bor (by first|exact P1|exact DF) rfl ?_|refine aC ?_|refine aC9 ?_|fail
  all_goals first|omega|exact⟨_,_,rfl,rfl⟩
theorem nG (l:List Int) (x:Sr) (hl:byt l) (hp:x.p<=2800):∃a0 a1 b0 b1 z,z.p<=x.p+16∧Vs.Fn Tryz.prog F.lU [sB l x] [.ptr (.b 0) 0 0] (.tup [.agg [.v (.int .i64 a0),.v (.int .i64 a1)],.agg [.v (.int .i64 b0),.v (.int .i64 b1)]]) [some (sB l z)]:=by
 have P1:=one l x hl 10 (by omega)
 have q1:=aR l x 10
 obtain⟨b1,hb1⟩:∃b,(pkV l x 10==0)=b:=⟨_,rfl⟩
 rw[hb1] at P1
 generalize pkS l x 10=y1 at *
 cases b1
 .have P2:=one l y1 hl 10 (by omega)
  have q2:=aR l y1 10
  obtain⟨b2,hb2⟩:∃b,(pkV l y1 10==0)=b:=⟨_,rfl⟩
  rw[hb2] at P2
  generalize pkS l y1 10=y2 at *
  cases b2
  .refine⟨0,3,3,6,y2,by omega,?_⟩
   refine CdV.l14Two_ok.fn Tryz.mixed (hin:=[sB l x]) _ _ [.b 0] [sB l y2] CdV.l14Two_nt CdV.l14Two_rs rfl (by simp) rfl (by simp) λX=>?_
   unfold CdV.nG
   simp -dsimp only[go_sem,sB]
   repeat' (first
     |(refine RgK.mk rfl ?_;simp -dsimp only[go_sem,sB])
     |(refine RgK.ord Tryz.mixed [[],[0],[],[1],[2,3]] [0] rfl rfl (by decide) (T0:=[1,2,3,4]) rfl (n:=4) rfl rfl ?_;simp -dsimp only[go_sem,vcF,pv,vcO,List.map_cons,List.map_nil,Option.isSome_some,sB])
     |(refine RgK.ord Tryz.mixed [[],[0],[1],[2],[],[1,3],[4,5]] [0] rfl rfl (by decide) (T0:=[1,2,3,4,5,6]) rfl (n:=6) rfl rfl ?_;simp -dsimp only[go_sem,vcF,pv,vcO,List.map_cons,List.map_nil,Option.isSome_some,sB])
     |(refine RgK.ord Tryz.mixed [[],[],[0],[1,2]] [] rfl rfl (by decide) (T0:=[0,1,2,3]) rfl (n:=4) rfl rfl ?_;simp -dsimp only[go_sem,vcF,pv,vcO,List.map_cons,List.map_nil,Option.isSome_some,sB])
     |(refine OrK.yes rfl ?_ ?_<;>try simp -dsimp only[go_sem,vcO,sB])
     |refine OrK.no rfl ?_
     |exact OrK.nil
     |(refine Br.mk (λh=>?_) (λh=>?_)<;>simp -dsimp only[go_sem,h,sB])
     |(refine aB.bor (by first|exact P1|exact P2) rfl ?_;simp -dsimp only[go_sem,sB])
     |(refine aC9 ?_;try simp -dsimp only[go_sem,sB])
     |fail)
   all_goals first|omega|exact⟨_,_,rfl,rfl⟩
  .have P3:=pick l y2 hl 2 (by omega)
   have h3:=bC hl y2 (n:=2) (by omega)
   have q3:=aR l y2 2
   generalize pkV l y2 2=v3 at *
   generalize pkS l y2 2=y3 at *
   have w1:IntKind.i64.wrap (12+v3)=12+v3:=aG (by omega) (by omega)
   refine⟨0,12+v3,3,6,y3,by omega,?_⟩
   refine CdV.l14Two_ok.fn Tryz.mixed (hin:=[sB l x]) _ _ [.b 0] [sB l y3] CdV.l14Two_nt CdV.l14Two_rs rfl (by simp) rfl (by simp) λX=>?_
   unfold CdV.nG
   simp -dsimp only[go_sem,sB,w1]
   repeat' (first
     |(refine RgK.mk rfl ?_;simp -dsimp only[go_sem,sB,w1])
     |(refine RgK.ord Tryz.mixed [[],[0],[],[1],[2,3]] [0] rfl rfl (by decide) (T0:=[1,2,3,4]) rfl (n:=4) rfl rfl ?_;simp -dsimp only[go_sem,vcF,pv,vcO,List.map_cons,List.map_nil,Option.isSome_some,sB,w1])
     |(refine RgK.ord Tryz.mixed [[],[0],[1],[2],[],[1,3],[4,5]] [0] rfl rfl (by decide) (T0:=[1,2,3,4,5,6]) rfl (n:=6) rfl rfl ?_;simp -dsimp only[go_sem,vcF,pv,vcO,List.map_cons,List.map_nil,Option.isSome_some,sB,w1])
     |(refine RgK.ord Tryz.mixed [[],[],[0],[1,2]] [] rfl rfl (by decide) (T0:=[0,1,2,3]) rfl (n:=4) rfl rfl ?_;simp -dsimp only[go_sem,vcF,pv,vcO,List.map_cons,List.map_nil,Option.isSome_some,sB,w1])
     |(refine OrK.yes rfl ?_ ?_<;>try simp -dsimp only[go_sem,vcO,sB,w1])
     |refine OrK.no rfl ?_
     |exact OrK.nil
     |(refine Br.mk (λh=>?_) (λh=>?_)<;>simp -dsimp only[go_sem,h,sB,w1])
     |(refine aB.bor (by first|exact P1|exact P2|exact P3) rfl ?_;simp -dsimp only[go_sem,sB,w1])
     |(refine aC9 ?_;try simp -dsimp only[go_sem,sB,w1])
     |fail)
   all_goals first|omega|exact⟨_,_,rfl,rfl⟩
 .obtain⟨f0,f1,z,q2,DF⟩:=vU l y1 hl (by omega)
  refine⟨f0,f1,3,6,z,by omega,?_⟩
  refine CdV.l14Two_ok.fn Tryz.mixed (hin:=[sB l x]) _ _ [.b 0] [sB l z] CdV.l14Two_nt CdV.l14Two_rs rfl (by simp) rfl (by simp) λX=>?_
  unfold CdV.nG
  simp -dsimp only[go_sem,sB]
  repeat' (first
    |(refine RgK.mk rfl ?_;simp -dsimp only[go_sem,sB])
    |(refine RgK.ord Tryz.mixed [[],[0],[],[1],[2,3]] [0] rfl rfl (by decide) (T0:=[1,2,3,4]) rfl (n:=4) rfl rfl ?_;simp -dsimp only[go_sem,vcF,pv,vcO,List.map_cons,List.map_nil,Option.isSome_some,sB])
    |(refine RgK.ord Tryz.mixed [[],[0],[1],[2],[],[1,3],[4,5]] [0] rfl rfl (by decide) (T0:=[1,2,3,4,5,6]) rfl (n:=6) rfl rfl ?_;simp -dsimp only[go_sem,vcF,pv,vcO,List.map_cons,List.map_nil,Option.isSome_some,sB])
    |(refine RgK.ord Tryz.mixed [[],[],[0],[1,2]] [] rfl rfl (by decide) (T0:=[0,1,2,3]) rfl (n:=4) rfl rfl ?_;simp -dsimp only[go_sem,vcF,pv,vcO,List.map_cons,List.map_nil,Option.isSome_some,sB])
    |(refine OrK.yes rfl ?_ ?_<;>try simp -dsimp only[go_sem,vcO,sB])
    |refine OrK.no rfl ?_
    |exact OrK.nil
    |(refine Br.mk (λh=>?_) (λh=>?_)<;>simp -dsimp only[go_sem,h,sB])
    |(refine aB.bor (by first|exact P1|exact DF) rfl ?_;simp -dsimp only[go_sem,sB])
    |(refine aC9 ?_;try simp -dsimp only[go_sem,sB])
    |fail)
  all_goals first|omega|exact⟨_,_,rfl,rfl⟩
end Go.Proofs.YtfoddghhlagenaaGreatDoor
