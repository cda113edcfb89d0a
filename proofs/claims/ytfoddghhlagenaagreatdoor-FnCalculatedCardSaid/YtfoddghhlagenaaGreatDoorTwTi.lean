/- A card and two lists of fields that are drawn for the law. -/
import Derived.Test.YtfoddghhlagenaaGreatDoorVsD
import Derived.Test.YtfoddghhlagenaaGreatDoorTwTe
import Derived.Test.YtfoddghhlagenaaGreatDoorVvA
set_option linter.all false
set_option maxHeartbeats 8000000
namespace Go.Proofs.YtfoddghhlagenaaGreatDoor
open Go.Vs
section
variable [Vs.Tab 0 Vs.powP]
attribute [local irreducible] Vs.Fn nxV nxS pkV pkS ptN dtF kQ hoF hoR
theorem aD5 (l:List Int):Vs.Fn Tryz.prog F.dQ [] [.sl 1 (E cU l)] (.ptr (.b 0) 0 0) [some (.var [.sl 1 (E cU l),.v (.int .i64 0),.v (.int .u64 0)] false)]:=by
 refine fn1 Cd.s_l00From_k [.t 5 0] [sB l ⟨0,0⟩] λX=>?_
 unfold Cd.dQ
 repeat' first|simp -dsimp only[go_sem,Int.reduceBEq,Int.reduceBNe,cC,aJ,List.replicate_succ,List.replicate_zero,List.flatten_cons,List.flatten_nil,List.cons_append,List.nil_append,List.set_cons_zero,List.set_cons_succ,List.length_cons,List.length_nil,List.length_set,List.mem_singleton,List.mem_cons,List.not_mem_nil,or_false,false_or,Vs.Name.t.injEq,List.getD_cons_zero,List.getD_cons_succ,bW,bX,eF,sB,List.append_nil,List.flatMap_cons,List.flatMap_nil]|apply Br.mk<;>intro h<;>try simp -dsimp only[h]|refine aC ?_|refine aC9 ?_|fail
 all_goals exact⟨_,_,rfl,rfl⟩
open Go.Vs.Q in
def CdV.DrawCalculateCard:aD:=s [mi 2 0,o 3 (.alloc [.v (.slice none 0 0)]),o 4 (.alloc [.v (.int .i64 (0)),.v (.int .i64 (0))]),o 5 (.alloc [.v (.int .i64 (0)),.v (.int .i64 (0))]),o 6 (.alloc [.v (.int .i64 (0)),.v (.int .i64 (0))])] [0,3,4,5,6]<|s [m 12 0,c 13 F.dQ [12],m 7 13] [3,4,5,6,7]<|s [m 14 7,o 15 (.call
 (.func F.bY) [14] [0]),m 8 15] [3,4,5,6,7,8]<|s [m 16 7,o 17 (.call (.func F.fB) [16] [0]),o 9 (.alloc [.v (.slice none 0 0)]),⟨none,.store 1 9 17,none⟩] [3,4,5,6,7,8,9]<|.seq (s [m 18 7,o 19 (.call (.func F.aM) [18,(k 12)] [0])] [3,4,5,6,7,8,9,19]<|.cond
 19 (.region [m 20 7,o 21 (.call (.func F.iT) [20] [0]),⟨none,.store 1 9 21,none⟩] [3,4,5,6,7,8,9] []) .skip)<|s [m 23 7,o 24 (.call (.func F.lU) [23] [0]),m 22 24,ex 25 22 0,ex 26 22 1,o 10 (.alloc [.v (.int .i64 (0)),.v (.int .i64 (0))]),o 11 (.alloc [.v (.int .i64 (0)),.v (.int
 .i64 (0))]),⟨none,.store 2 10 25,none⟩,⟨none,.store 2 11 26,none⟩] [3,4,5,6,7,8,9,10,11]<|r [m 27 8,lt 28 1 9,lt 29 2 10,lt 30 2 11,m 31 7,o 32 (.call (.func F.jV) [31] [0]),m 2 27,⟨none,.store 1 3 28,none⟩,⟨none,.store 2 4 29,none⟩,⟨none,.store 2 5 30,none⟩,⟨none,.store 2 6 32,none⟩]
 [2,3,4,5,6] [3000000]<|.ret
theorem CdV.DrawCalculateCard_rs:Tryz.f5.results.toList=[.tmp 2,.cell 3 26,.cell 4 28,.cell 5 28,.cell 6 28]:=rfl
theorem CdV.DrawCalculateCard_nt:Tryz.f5.ntmps=33:=rfl
theorem CdV.DrawCalculateCard_ok:lI Tryz.prog [([[],[],[],[],[],[4],[0,5],[1,6],[2,7],[3,8],[5,9]],[0,4])] 5 Tryz.f5 CdV.DrawCalculateCard:=⟨Tryz.func5,by kernel_rfl,by decide +kernel⟩
attribute [local go_sem] Int.reduceBEq Int.reduceBNe cC aJ List.replicate_succ List.replicate_zero List.flatten_cons List.flatten_nil List.cons_append List.nil_append List.set_cons_zero List.set_cons_succ List.length_cons List.length_nil List.length_set List.mem_singleton List.mem_cons List.not_mem_nil or_false false_or Vs.Name.t.injEq List.getD_cons_zero List.getD_cons_succ bW bX eF List.append_nil List.flatMap_cons List.flatMap_nil Int.reduceAdd Int.reduceSub cPf cFd List.getElem?_cons_zero List.getElem?_cons_succ in
theorem aFL (X:Ctx) (l:List Int) (y z:Sr) (k:Int) (c:List Int) (a0 a1 b0 b1 t0 t1:Int) (DT:Vs.Fn Tryz.prog F.jV [sB l y] [.ptr (.b 0) 0 0] (.agg [.v (.int .i64 t0),.v (.int .i64 t1)]) [some (sB l z)]):qN Tryz.prog X (drQ Tryz.prog [([[],[],[],[],[],[4],[0,5],[1,6],[2,7],[3,8],[5,9]],[0,4])]) (.region [⟨some 27,.mv (.tmp 8),none⟩,⟨some 28,.load true 1 (.tmp 9),none⟩,⟨some 29,.load true 2 (.tmp 10),none⟩,⟨some 30,.load true 2 (.tmp 11),none⟩,⟨some 31,.mv (.tmp 7),none⟩,⟨some 32,.call (.func F.jV) [(.tmp 31)] [0],none⟩,⟨some 2,.mv (.tmp 27),none⟩,⟨none,.store 1 (.tmp 3) (.tmp 28),none⟩,⟨none,.store 2 (.tmp 4) (.tmp 29),none⟩,⟨none,.store 2 (.tmp 5) (.tmp 30),none⟩,⟨none,.store 2 (.tmp 6) (.tmp 32),none⟩] [2,3,4,5,6] [3000000]) (fun σ'=>LeL σ' ⟨[(2,.v (.int .i64 k)),(3,.ptr (.t 3 0) 0 0),(4,.ptr (.t 4 0) 0 0),(5,.ptr (.t 5 0) 0 0),(6,.ptr (.t 6 0) 0 0)],[(.t 6 0,.var [.v (.int .i64 t0),.v (.int .i64 t1)] false),(.t 5 0,.var [.v (.int .i64 b0),.v (.int .i64 b1)] false),(.t 4 0,.var [.v (.int .i64 a0),.v (.int .i64 a1)] false),(.t 3 0,.var [.sl 1 (E cI c)] false)]⟩) (λ_ _=>False) ⟨[(3,.ptr (.t 3 0) 0 0),(4,.ptr (.t 4 0) 0 0),(5,.ptr (.t 5 0) 0 0),(6,.ptr (.t 6 0) 0 0),(7,.ptr (.t 13 0) 0 0),(8,.v (.int .i64 k)),(9,.ptr (.t 9 0) 0 0),(10,.ptr (.t 10 0) 0 0),(11,.ptr (.t 11 0) 0 0)],[(.t 11 0,.var [.v (.int .i64 b0),.v (.int .i64 b1)] false),(.t 10 0,.var [.v (.int .i64 a0),.v (.int .i64 a1)] false),(.t 9 0,.var [.sl 1 (E cI c)] false),(.t 13 0,sB l y),(.t 6 0,.var [.v (.int .i64 0),.v (.int .i64 0)] false),(.t 5 0,.var [.v (.int .i64 0),.v (.int .i64 0)] false),(.t 4 0,.var [.v (.int .i64 0),.v (.int .i64 0)] false),(.t 3 0,.var [.v (.slice none 0 0)] false)]⟩:=by
 refine qN.rgO Tryz.mixed (E:=[[],[],[],[],[],[4],[0,5],[1,6],[2,7],[3,8],[5,9]]) (Ps:=[0,4]) rfl (by decide) rfl (T0:=[1,2,3,5,6,7,8,9,10]) rfl (n:=9) rfl rfl ?_
 simp -dsimp only[go_sem,vcF,pv,vcO,List.map_cons,List.map_nil,Option.isSome_some,sB]
 repeat' (first
   |(refine RgK.mk rfl ?_;simp -dsimp only[go_sem,sB])
   |(refine RgK.ord Tryz.mixed [[],[],[],[],[],[4],[0,5],[1,6],[2,7],[3,8],[5,9]] [0,4] rfl rfl (by decide) (T0:=[1,2,3,5,6,7,8,9,10]) rfl (n:=9) rfl rfl ?_;simp -dsimp only[go_sem,vcF,pv,vcO,List.map_cons,List.map_nil,Option.isSome_some,sB])
   |(refine OrK.yes rfl ?_ ?_<;>try simp -dsimp only[go_sem,vcO,sB])
   |refine OrK.no rfl ?_
   |exact OrK.nil
   |(refine Br.mk (λh=>?_) (λh=>?_)<;>simp -dsimp only[go_sem,h,sB])
   |(refine aB.bor (by first|exact DT) rfl ?_;simp -dsimp only[go_sem,sB])
   |(refine aC9 ?_;try simp -dsimp only[go_sem,sB])
   |fail)
 all_goals first|(simp[Vs.LeL,Vs.look,Vs.aA];done)
attribute [local go_sem] Int.reduceBEq Int.reduceBNe aJ List.replicate_succ List.replicate_zero List.flatten_cons List.flatten_nil List.cons_append List.nil_append List.set_cons_zero List.set_cons_succ List.length_cons List.length_nil List.length_set List.mem_singleton List.mem_cons List.not_mem_nil or_false false_or Vs.Name.t.injEq List.getD_cons_zero List.getD_cons_succ bW bX eF sB List.append_nil List.flatMap_cons List.flatMap_nil Int.reduceAdd Int.reduceSub cPf cFd List.getElem?_cons_zero List.getElem?_cons_succ in
theorem aAh (l:List Int) (hl:byt l):∃k c a0 a1 b0 b1 t0 t1,c.length<=100∧Fz F.kT [.sl 1 (E cU l)] (.tup [.v (.int .i64 k),.agg (cC c),.agg [.v (.int .i64 a0),.v (.int .i64 a1)],.agg [.v (.int .i64 b0),.v (.int .i64 b1)],.agg [.v (.int .i64 t0),.v (.int .i64 t1)]]):=by
 have FR:=aD5 l
 obtain⟨k,y1,hy1,DK⟩:=pX l ⟨0,0⟩ hl (by dsimp only;omega)
 dsimp only at hy1
 obtain⟨c,y2,hc,hy2,DC⟩:=fV l y1 hl (by omega)
 have P3:=one l y2 hl 12 (by omega)
 have q3:=aR l y2 12
 obtain⟨b3,hb3⟩:∃b,(pkV l y2 12==0)=b:=⟨_,rfl⟩
 rw[hb3] at P3
 generalize pkS l y2 12=y3 at *
 cases b3
 .obtain⟨a0,a1,b0,b1,y4,hy4,D2⟩:=nG l y3 hl (by omega)
  obtain⟨t0,t1,y5,hy5,DT⟩:=aDX l y4 hl (by omega)
  refine⟨k,c,a0,a1,b0,b1,t0,t1,by omega,?_⟩
  refine CdV.DrawCalculateCard_ok.fn Tryz.mixed (hin:=[]) _ _ [] [] CdV.DrawCalculateCard_nt CdV.DrawCalculateCard_rs rfl (by simp) rfl (by simp) λX=>?_
  unfold CdV.DrawCalculateCard
  simp -dsimp only[go_sem,cC]
  repeat' (first
    |(refine RgK.mk rfl ?_;simp -dsimp only[go_sem,cC])
    |(refine RgK.or (qN.via (by first|(simp -dsimp only[go_sem,cC];simp[Vs.LeL,Vs.look,Vs.aA,sB];done)|fail) (aFL X l y4 y5 k c a0 a1 b0 b1 t0 t1 DT) ?_);simp -dsimp only[go_sem,cC])
    |(refine RgK.ord Tryz.mixed [[],[],[],[],[],[4],[0,5],[1,6],[2,7],[3,8],[5,9]] [0,4] rfl rfl (by decide) (T0:=[1,2,3,5,6,7,8,9,10]) rfl (n:=9) rfl rfl ?_;simp -dsimp only[go_sem,vcF,pv,vcO,List.map_cons,List.map_nil,Option.isSome_some,cC])
    |(refine OrK.yes rfl ?_ ?_<;>try simp -dsimp only[go_sem,vcO,cC])
    |refine OrK.no rfl ?_
    |exact OrK.nil
    |(refine Br.mk (λh=>?_) (λh=>?_)<;>simp -dsimp only[go_sem,h,cC])
    |(refine aB.bor (by first|exact DK|exact DC|exact P3|exact D2) rfl ?_;simp -dsimp only[go_sem,cC])
    |(refine aB.own (by first|exact FR) rfl ?_;simp -dsimp only[go_sem,cC])
    |(refine aC9 ?_;try simp -dsimp only[go_sem,cC])
    |fail)
  all_goals first|omega|exact⟨_,_,rfl,rfl⟩
 .obtain⟨c2,y3b,hc2,hy3b,DB⟩:=aFd l y3 hl (by omega)
  obtain⟨a0,a1,b0,b1,y4,hy4,D2⟩:=nG l y3b hl (by omega)
  obtain⟨t0,t1,y5,hy5,DT⟩:=aDX l y4 hl (by omega)
  refine⟨k,c2,a0,a1,b0,b1,t0,t1,by omega,?_⟩
  refine CdV.DrawCalculateCard_ok.fn Tryz.mixed (hin:=[]) _ _ [] [] CdV.DrawCalculateCard_nt CdV.DrawCalculateCard_rs rfl (by simp) rfl (by simp) λX=>?_
  unfold CdV.DrawCalculateCard
  simp -dsimp only[go_sem,cC]
  repeat' (first
    |(refine RgK.mk rfl ?_;simp -dsimp only[go_sem,cC])
    |(refine RgK.or (qN.via (by first|(simp -dsimp only[go_sem,cC];simp[Vs.LeL,Vs.look,Vs.aA,sB];done)|fail) (aFL X l y4 y5 k c2 a0 a1 b0 b1 t0 t1 DT) ?_);simp -dsimp only[go_sem,cC])
    |(refine RgK.ord Tryz.mixed [[],[],[],[],[],[4],[0,5],[1,6],[2,7],[3,8],[5,9]] [0,4] rfl rfl (by decide) (T0:=[1,2,3,5,6,7,8,9,10]) rfl (n:=9) rfl rfl ?_;simp -dsimp only[go_sem,vcF,pv,vcO,List.map_cons,List.map_nil,Option.isSome_some,cC])
    |(refine OrK.yes rfl ?_ ?_<;>try simp -dsimp only[go_sem,vcO,cC])
    |refine OrK.no rfl ?_
    |exact OrK.nil
    |(refine Br.mk (λh=>?_) (λh=>?_)<;>simp -dsimp only[go_sem,h,cC])
    |(refine aB.bor (by first|exact DK|exact DC|exact P3|exact DB|exact D2) rfl ?_;simp -dsimp only[go_sem,cC])
    |(refine aB.own (by first|exact FR) rfl ?_;simp -dsimp only[go_sem,cC])
    |(refine aC9 ?_;try simp -dsimp only[go_sem,cC])
    |fail)
  all_goals first|omega|exact⟨_,_,rfl,rfl⟩
end
section
variable [Vs.Tab 0 Vs.powP]
attribute [local irreducible] Vs.Fn nxV nxS pkV pkS ptN dtF kQ hoF hoR
theorem aAU (l:List Int):Vs.Fn Tryz.prog F.dQ [] [.sl 1 (E cU l)] (.ptr (.b 0) 0 0) [some (.var [.sl 1 (E cU l),.v (.int .i64 0),.v (.int .u64 0)] false)]:=by
 refine fn1 Cd.s_l00From_k [.t 5 0] [sB l ⟨0,0⟩] λX=>?_
 unfold Cd.dQ
 repeat' first|simp -dsimp only[go_sem,Int.reduceBEq,Int.reduceBNe,cC,aJ,List.replicate_succ,List.replicate_zero,List.flatten_cons,List.flatten_nil,List.cons_append,List.nil_append,List.set_cons_zero,List.set_cons_succ,List.length_cons,List.length_nil,List.length_set,List.mem_singleton,List.mem_cons,List.not_mem_nil,or_false,false_or,Vs.Name.t.injEq,List.getD_cons_zero,List.getD_cons_succ,bW,bX,eF,sB,List.append_nil,List.flatMap_cons,List.flatMap_nil]|apply Br.mk<;>intro h<;>try simp -dsimp only[h]|refine aC ?_|refine aC9 ?_|fail
 all_goals exact⟨_,_,rfl,rfl⟩
open Go.Vs.Q in
def CdV.DrawCalculateDeck:aD:=s [mi 2 0,mn 3,o 4 (.alloc [.v (.int .i64 (0)),.v (.int .i64 (0))]),o 5 (.alloc [.v (.int .i64 (0)),.v (.int .i64 (0))]),o 6 (.alloc [.v (.int .i64 (0)),.v (.int .i64 (0))])] [0,4,5,6]<|s [m 12 0,c 13 F.dQ [12],m 7 13] [4,5,6,7]<|s [m 14 7,o 15 (.call (.func F.bY) [14] [0]),m
 8 15] [4,5,6,7,8]<|s [m 16 7,o 17 (.call (.func F.dL) [16] [0]),m 9 17] [4,5,6,7,8,9]<|s [m 19 7,o 20 (.call (.func F.lU) [19] [0]),m 18 20,ex 21 18 0,ex 22 18 1,o 10 (.alloc [.v (.int .i64 (0)),.v (.int .i64 (0))]),o 11 (.alloc [.v (.int .i64 (0)),.v (.int .i64
 (0))]),⟨none,.store 2 10 21,none⟩,⟨none,.store 2 11 22,none⟩] [4,5,6,7,8,9,10,11]<|r [m 23 8,m 24 9,lt 25 2 10,lt 26 2 11,m 27 7,o 28 (.call (.func F.jV) [27] [0]),m 2 23,m 3 24,⟨none,.store 2 4 25,none⟩,⟨none,.store 2 5 26,none⟩,⟨none,.store 2 6 28,none⟩] [2,3,4,5,6] [3000000]<|.ret
theorem CdV.DrawCalculateDeck_rs:Tryz.f8.results.toList=[.tmp 2,.tmp 3,.cell 4 28,.cell 5 28,.cell 6 28]:=rfl
theorem CdV.DrawCalculateDeck_nt:Tryz.f8.ntmps=29:=rfl
theorem CdV.DrawCalculateDeck_ok:lI Tryz.prog [([[],[],[],[],[],[4],[0,5],[1,6],[2,7],[3,8],[5,9]],[0,1,4])] 8 Tryz.f8 CdV.DrawCalculateDeck:=⟨Tryz.func8,by kernel_rfl,by decide +kernel⟩
open Go.Vs.Q in
def CdV.DrawCyclesOfDeck:aD:=s [mi 2 0,mn 3,o 4 (.alloc [.v (.int .i64 (0)),.v (.int .i64 (0))]),o 5 (.alloc [.v (.int .i64 (0)),.v (.int .i64 (0))])] [0,4,5]<|s [m 11 0,c 12 F.dQ [11],m 6 12] [4,5,6]<|s [m 13 6,o 14 (.call (.func F.bY) [13] [0]),m 7 14] [4,5,6,7]<|s [m 15 6,o 16 (.call (.func
 F.dL) [15] [0]),m 8 16] [4,5,6,7,8]<|s [m 18 6,o 19 (.call (.func F.lU) [18] [0]),m 17 19,ex 20 17 0,ex 21 17 1,o 9 (.alloc [.v (.int .i64 (0)),.v (.int .i64 (0))]),o 10 (.alloc [.v (.int .i64 (0)),.v (.int .i64 (0))]),⟨none,.store 2 9 20,none⟩,⟨none,.store 2 10 21,none⟩]
 [4,5,7,8,9,10]<|r [m 22 7,m 23 8,lt 24 2 9,lt 25 2 10,m 2 22,m 3 23,⟨none,.store 2 4 24,none⟩,⟨none,.store 2 5 25,none⟩] [2,3,4,5] [3000000]<|.ret
theorem CdV.DrawCyclesOfDeck_rs:Tryz.f11.results.toList=[.tmp 2,.tmp 3,.cell 4 28,.cell 5 28]:=rfl
theorem CdV.DrawCyclesOfDeck_nt:Tryz.f11.ntmps=26:=rfl
theorem CdV.DrawCyclesOfDeck_ok:lI Tryz.prog [([[],[],[],[],[0],[1,4],[2,5],[3,6]],[0,1,4,5])] 11 Tryz.f11 CdV.DrawCyclesOfDeck:=⟨Tryz.func11,by kernel_rfl,by decide +kernel⟩
attribute [local go_sem] Int.reduceBEq Int.reduceBNe aJ List.replicate_succ List.replicate_zero List.flatten_cons List.flatten_nil List.cons_append List.nil_append List.set_cons_zero List.set_cons_succ List.length_cons List.length_nil List.length_set List.mem_singleton List.mem_cons List.not_mem_nil or_false false_or Vs.Name.t.injEq List.getD_cons_zero List.getD_cons_succ bW bX eF sB List.append_nil List.flatMap_cons List.flatMap_nil Int.reduceAdd Int.reduceSub cPf cFd List.getElem?_cons_zero List.getElem?_cons_succ in
theorem aAg (l:List Int) (hl:byt l):∃k d a0 a1 b0 b1 t0 t1,jK d∧Fz F.kS [.sl 1 (E cU l)] (.tup [.v (.int .i64 k),.sl 1 (E cC d),.agg [.v (.int .i64 a0),.v (.int .i64 a1)],.agg [.v (.int .i64 b0),.v (.int .i64 b1)],.agg [.v (.int .i64 t0),.v (.int .i64 t1)]]):=by
 have FR:=aAU l
 obtain⟨k,y1,hy1,DK⟩:=pX l ⟨0,0⟩ hl (by dsimp only;omega)
 dsimp only at hy1
 obtain⟨d,y3,hd,hy3,DD⟩:=vP l y1 hl (by omega)
 obtain⟨a0,a1,b0,b1,y4,hy4,D2⟩:=nG l y3 hl (by omega)
 obtain⟨t0,t1,y5,hy5,DT⟩:=aDX l y4 hl (by omega)
 refine⟨k,d,a0,a1,b0,b1,t0,t1,hd,?_⟩
 refine CdV.DrawCalculateDeck_ok.fn Tryz.mixed (hin:=[]) _ _ [] [] CdV.DrawCalculateDeck_nt CdV.DrawCalculateDeck_rs rfl (by simp) rfl (by simp) λX=>?_
 unfold CdV.DrawCalculateDeck
 simp -dsimp only[go_sem,cC]
 repeat' (first
   |(refine RgK.mk rfl ?_;simp -dsimp only[go_sem,cC])
   |(refine RgK.ord Tryz.mixed [[],[],[],[],[],[4],[0,5],[1,6],[2,7],[3,8],[5,9]] [0,1,4] rfl rfl (by decide) (T0:=[2,3,5,6,7,8,9,10]) rfl (n:=8) rfl rfl ?_;simp -dsimp only[go_sem,vcF,pv,vcO,List.map_cons,List.map_nil,Option.isSome_some,cC])
   |(refine OrK.yes rfl ?_ ?_<;>try simp -dsimp only[go_sem,vcO,cC])
   |refine OrK.no rfl ?_
   |exact OrK.nil
   |(refine Br.mk (λh=>?_) (λh=>?_)<;>simp -dsimp only[go_sem,h,cC])
   |(refine aB.bor (by first|exact DK|exact DD|exact D2|exact DT) rfl ?_;simp -dsimp only[go_sem,cC])
   |(refine aB.own (by first|exact FR) rfl ?_;simp -dsimp only[go_sem,cC])
   |(refine aC9 ?_;try simp -dsimp only[go_sem,cC])
   |fail)
 all_goals first|omega|exact⟨_,_,rfl,rfl⟩
attribute [local go_sem] Int.reduceBEq Int.reduceBNe aJ List.replicate_succ List.replicate_zero List.flatten_cons List.flatten_nil List.cons_append List.nil_append List.set_cons_zero List.set_cons_succ List.length_cons List.length_nil List.length_set List.mem_singleton List.mem_cons List.not_mem_nil or_false false_or Vs.Name.t.injEq List.getD_cons_zero List.getD_cons_succ bW bX eF sB List.append_nil List.flatMap_cons List.flatMap_nil Int.reduceAdd Int.reduceSub cPf cFd List.getElem?_cons_zero List.getElem?_cons_succ in
theorem aBA (l:List Int) (hl:byt l):∃k d a0 a1 b0 b1,jK d∧Fz F.mD [.sl 1 (E cU l)] (.tup [.v (.int .i64 k),.sl 1 (E cC d),.agg [.v (.int .i64 a0),.v (.int .i64 a1)],.agg [.v (.int .i64 b0),.v (.int .i64 b1)]]):=by
 have FR:=aAU l
 obtain⟨k,y1,hy1,DK⟩:=pX l ⟨0,0⟩ hl (by dsimp only;omega)
 dsimp only at hy1
 obtain⟨d,y3,hd,hy3,DD⟩:=vP l y1 hl (by omega)
 obtain⟨a0,a1,b0,b1,y4,hy4,D2⟩:=nG l y3 hl (by omega)
 refine⟨k,d,a0,a1,b0,b1,hd,?_⟩
 refine CdV.DrawCyclesOfDeck_ok.fn Tryz.mixed (hin:=[]) _ _ [] [] CdV.DrawCyclesOfDeck_nt CdV.DrawCyclesOfDeck_rs rfl (by simp) rfl (by simp) λX=>?_
 unfold CdV.DrawCyclesOfDeck
 simp -dsimp only[go_sem,cC]
 repeat' (first
   |(refine RgK.mk rfl ?_;simp -dsimp only[go_sem,cC])
   |(refine RgK.ord Tryz.mixed [[],[],[],[],[0],[1,4],[2,5],[3,6]] [0,1,4,5] rfl rfl (by decide) (T0:=[2,3,6,7]) rfl (n:=4) rfl rfl ?_;simp -dsimp only[go_sem,vcF,pv,vcO,List.map_cons,List.map_nil,Option.isSome_some,cC])
   |(refine OrK.yes rfl ?_ ?_<;>try simp -dsimp only[go_sem,vcO,cC])
   |refine OrK.no rfl ?_
   |exact OrK.nil
   |(refine Br.mk (λh=>?_) (λh=>?_)<;>simp -dsimp only[go_sem,h,cC])
   |(refine aB.bor (by first|exact DK|exact DD|exact D2) rfl ?_;simp -dsimp only[go_sem,cC])
   |(refine aB.own (by first|exact FR) rfl ?_;simp -dsimp only[go_sem,cC])
   |(refine aC9 ?_;try simp -dsimp only[go_sem,cC])
   |fail)
 all_goals first|omega|exact⟨_,_,rfl,rfl⟩
end
section
variable [Vs.Tab 0 Vs.powP]
attribute [local irreducible] Vs.Fn nxV nxS pkV pkS ptN dtF kQ hoF hoR
theorem aD4 (l:List Int):Vs.Fn Tryz.prog F.dQ [] [.sl 1 (E cU l)] (.ptr (.b 0) 0 0) [some (.var [.sl 1 (E cU l),.v (.int .i64 0),.v (.int .u64 0)] false)]:=by
 refine fn1 Cd.s_l00From_k [.t 5 0] [sB l ⟨0,0⟩] λX=>?_
 unfold Cd.dQ
 repeat' first|simp -dsimp only[go_sem,Int.reduceBEq,Int.reduceBNe,cC,aJ,List.replicate_succ,List.replicate_zero,List.flatten_cons,List.flatten_nil,List.cons_append,List.nil_append,List.set_cons_zero,List.set_cons_succ,List.length_cons,List.length_nil,List.length_set,List.mem_singleton,List.mem_cons,List.not_mem_nil,or_false,false_or,Vs.Name.t.injEq,List.getD_cons_zero,List.getD_cons_succ,bW,bX,eF,sB,List.append_nil,List.flatMap_cons,List.flatMap_nil]|apply Br.mk<;>intro h<;>try simp -dsimp only[h]|refine aC ?_|refine aC9 ?_|fail
 all_goals exact⟨_,_,rfl,rfl⟩
open Go.Vs.Q in
def CdV.DrawCrossFoot:aD:=s [o 2 (.alloc [.v (.slice none 0 0)]),mn 3,mn 4] [0,2]<|s [m 9 0,c 10 F.dQ [9],m 5 10] [2,5]<|s [m 11 5,o 12 (.call (.func F.fB) [11] [0]),o 6 (.alloc [.v (.slice none 0 0)]),⟨none,.store 1 6 12,none⟩] [2,5,6]<|.seq (.naming 7 (.region [m 13 5,o 14 (.call (.func
 F.jL) [13] [0]),m 7 14] [2,5,6,7] []))<|.seq (s [m 15 5,o 16 (.call (.func F.aM) [15,(k 20)] [0])] [2,5,6,7,16]<|.cond 16 (.seq (.naming 7 (.region [o 17 (.bslice 2 0 [.v (.int .i64 (0)),.v (.int .i64 (0))] []),m 7 17] [2,5,6,7] []))<|.seq (s [m 18 5,o 19 (.call (.func
 F.aF) [18,(k 2)] [0]),o 20 (.bin .add (k 6) 19),m 8 20] [2,6,7,8]<|.block 0 (.loop (.seq (s [m 21 8,o 22 (.bin .gtr 21 (k 0))] [2,6,7,8,22]<|.cond 22 .skip (.exit 0))<|.seq (.block 1 (.naming 7 (.region [m 25 7,o 26 (.build [.v (.int .i64 (0)),.v (.int .i64 (0))] [(1,1,(k 3))]),o 27
 (.bslice 2 1 [.v (.int .i64 (0)),.v (.int .i64 (0))] [(0,26)]),o 28 (.append 2 16 25 27),m 7 28] [2,6,7,8] [])))<|.region [m 23 8,o 24 (.bin .sub 23 (k 1)),m 8 24] [2,6,7,8] [])))<|s [lt 29 1 6,m 30 7,o 31 (.bslice 2 0 [.v (.int .i64 (0)),.v (.int .i64 (0))] []),⟨none,.store 1 2 29,none⟩,m 3 30,m 4
 31] [2,3,4]<|.ret) .skip)<|r [lt 32 1 6,m 33 7,m 34 5,o 35 (.call (.func F.jL) [34] [0]),⟨none,.store 1 2 32,none⟩,m 3 33,m 4 35] [2,3,4] [3000000]<|.ret
theorem CdV.DrawCrossFoot_rs:Tryz.f14.results.toList=[.cell 2 26,.tmp 3,.tmp 4]:=rfl
theorem CdV.DrawCrossFoot_nt:Tryz.f14.ntmps=36:=rfl
theorem CdV.DrawCrossFoot_ok:lI Tryz.prog [([[],[],[],[2],[0,3],[1,4],[3,5]],[1,2])] 14 Tryz.f14 CdV.DrawCrossFoot:=⟨Tryz.func14,by kernel_rfl,by decide +kernel⟩
attribute [local go_sem] Int.reduceBEq Int.reduceBNe aJ List.replicate_succ List.replicate_zero List.flatten_cons List.flatten_nil List.cons_append List.nil_append List.set_cons_zero List.set_cons_succ List.length_cons List.length_nil List.length_set List.mem_singleton List.mem_cons List.not_mem_nil or_false false_or Vs.Name.t.injEq List.getD_cons_zero List.getD_cons_succ bW bX eF sB List.append_nil List.flatMap_cons List.flatMap_nil Int.reduceAdd Int.reduceSub cFd List.getElem?_cons_zero List.getElem?_cons_succ in
theorem aC0 (l:List Int) (hl:byt l):∃c p m,c.length<=100∧p.length<=10∧m.length<=10∧Fz F.oZ [.sl 1 (E cU l)] (.tup [.agg (cC c),.sl 2 (E cPf p),.sl 2 (E cPf m)]):=by
 have FR:=aD4 l
 obtain⟨c,y1,hc,hy1,DC⟩:=fV l ⟨0,0⟩ hl (by dsimp only;omega)
 dsimp only at hy1
 obtain⟨p,y2,hp,hy2,DP⟩:=aCb l y1 hl (by omega)
 have P3:=one l y2 hl 20 (by omega)
 have q3:=aR l y2 20
 obtain⟨b3,hb3⟩:∃b,(pkV l y2 20==0)=b:=⟨_,rfl⟩
 rw[hb3] at P3
 generalize pkS l y2 20=y3 at *
 cases b3
 .obtain⟨m,y4,hm,hy4,DM⟩:=aCb l y3 hl (by omega)
  refine⟨c,p,m,by omega,hp,hm,?_⟩
  refine CdV.DrawCrossFoot_ok.fn Tryz.mixed (hin:=[]) _ _ [] [] CdV.DrawCrossFoot_nt CdV.DrawCrossFoot_rs rfl (by simp) rfl (by simp) λX=>?_
  unfold CdV.DrawCrossFoot
  simp -dsimp only[go_sem,cC,cPf]
  repeat' (first
    |(refine RgK.mk rfl ?_;simp -dsimp only[go_sem,cC,cPf])
    |(refine RgK.ord Tryz.mixed [[],[],[],[2],[0,3],[1,4],[3,5]] [1,2] rfl rfl (by decide) (T0:=[0,3,4,5,6]) rfl (n:=5) rfl rfl ?_;simp -dsimp only[go_sem,vcF,pv,vcO,List.map_cons,List.map_nil,Option.isSome_some,cC,cPf])
    |(refine OrK.yes rfl ?_ ?_<;>try simp -dsimp only[go_sem,vcO,cC,cPf])
    |refine OrK.no rfl ?_
    |exact OrK.nil
    |(refine Br.mk (λh=>?_) (λh=>?_)<;>simp -dsimp only[go_sem,h,cC,cPf])
    |(refine aB.bor (by first|exact DC|exact DP|exact P3|exact DM) rfl ?_;simp -dsimp only[go_sem,cC,cPf])
    |(refine aB.own (by first|exact FR) rfl ?_;simp -dsimp only[go_sem,cC,cPf])
    |(refine aC9 ?_;try simp -dsimp only[go_sem,cC,cPf])
    |fail)
  all_goals first|omega|exact⟨_,_,rfl,rfl⟩
 .have P4:=pick l y3 hl 2 (by omega)
  have h4:=bC hl y3 (n:=2) (by omega)
  have q4:=aR l y3 2
  generalize pkV l y3 2=v4 at *
  generalize pkS l y3 2=y4 at *
  obtain⟨j,hj⟩:∃j:Nat,v4=j:=⟨v4.toNat,by omega⟩
  subst hj
  have w6:IntKind.i64.wrap (6+(j:Int))=((6+j:Nat):Int):=by rw[aG (by omega) (by omega)];omega
  obtain⟨n,hn⟩:∃n,6+j=n:=⟨_,rfl⟩
  rw[hn] at w6
  refine⟨c,List.replicate n (0,3),[],by omega,by simp;omega,by simp,?_⟩
  refine CdV.DrawCrossFoot_ok.fn Tryz.mixed (hin:=[]) _ _ [] [] CdV.DrawCrossFoot_nt CdV.DrawCrossFoot_rs rfl (by simp) rfl (by simp) λX=>?_
  unfold CdV.DrawCrossFoot
  repeat' first|simp -dsimp only[go_sem,cC,cPf,w6]|apply Br.mk<;>intro h<;>try simp -dsimp only[h]|refine aB.bor (by first|exact DC|exact DP|exact P3|exact P4) rfl ?_|refine aB.own (by first|exact FR) rfl ?_|refine aC ?_|refine aC9 ?_|fail
  refine bA.at (aAi Tryz.mixed _) (X:={k:Nat // k<=n}) (λzz=>[(7,.loc (.t 7 0) 0 (n-zz.1)),(8,.v (.int .i64 (zz.1:Nat)))]) (λzz=>[(.t 7 0,.arr 2 (E cPf (List.replicate (n-zz.1) (0,3))) false)]) (λzz=>zz.1) ⟨n,by omega⟩ ?_ ?_
  .simp[Vs.LeL,Vs.look,Vs.aA,Vs.bL,Vs.aO,Vs.hset,Vs.aP,Vs.E,cPf,cFd]
  .rintro⟨k,hk⟩
   dsimp only at hk⊢
   simp -dsimp only[go_sem,cC,cPf]
   refine Br.mk (λhc=>?_) λhc=>?_
   .obtain⟨k,rfl⟩:∃j,k=j+1:=⟨k-1,by simp at hc;omega⟩
    have w:=aCA (k:=k) (by omega)
    have hnk:n-(k+1)+1=n-k:=by omega
    have hap:E cPf (List.replicate (n-(k+1)) (0,3))++[[.v (.int .i64 0),.v (.int .i64 3)]]=E cPf (List.replicate (n-k) (0,3)):=by rw[←hnk,List.replicate_succ',bR];rfl
    have hle:(E cPf (List.replicate (n-(k+1)) ((0:Int),(3:Int)))).length=n-(k+1):=by rw[aJ,List.length_replicate]
    repeat' first|simp -dsimp only[go_sem,w,hap,hle,hnk,cC,cPf]|apply Br.mk<;>intro h<;>try simp -dsimp only[h]|refine aC ?_|refine aC9 ?_|fail
    all_goals first|omega|(refine⟨⟨k,by omega⟩,?_,by simp only;omega⟩;simp[Vs.LeL,Vs.look,Vs.aA,Vs.bL,Vs.aO,Vs.hset,Vs.aP,Vs.E,cPf,cFd,hnk];done)
   .obtain rfl:k=0:=by simp at hc;omega
    have htk:(E cPf (List.replicate n ((0:Int),(3:Int)))).take n=E cPf (List.replicate n (0,3)):=List.take_of_length_le (by rw[aJ,List.length_replicate];omega)
    repeat' first|simp -dsimp only[go_sem,htk,Nat.sub_zero,List.length_replicate,cC,cPf]|apply Br.mk<;>intro h<;>try simp -dsimp only[h]|refine And.intro ?_ (λh=>absurd rfl h)|refine aC ?_|refine aC9 ?_|fail
    all_goals first|exact⟨⟨_,_,rfl,rfl⟩,λh=>h rfl⟩|exact⟨_,_,rfl,rfl⟩|(refine⟨?_,λh=>h rfl⟩;exact⟨_,_,rfl,rfl⟩)
end
end Go.Proofs.YtfoddghhlagenaaGreatDoor
