/- The result of a flow for a deck: the program and the reference. -/
import Derived.Test.YtonkjfiffcfaoaaGreatUwPd
import Derived.Test.YtonkjfiffcfaoaaGreatUwVu
import Derived.Test.YtonkjfiffcfaoaaGreatUwD
import Derived.Test.YtonkjfiffcfaoaaGreatUuF
import Derived.Test.YtonkjfiffcfaoaaGreatUwK
set_option linter.all false
set_option maxHeartbeats 8000000
namespace Go.Proofs.YtonkjfiffcfaoaaGreat
open Go.Vs
section
variable [Vs.Envs]
attribute [local irreducible] Vs.Fn nxV nxS pkV pkS ptN crd dV dtF uT wO aX dsC
theorem aI2 (l:List Int):Vs.Fn Tryz.prog F.qE [] [.sl 1 (E cU l)] (.ptr (.b 0) 0 0) [some (.var [.sl 1 (E cU l),.v (.int .i64 0),.v (.int .u64 0)] false)]:=by
 refine fn1 Cd.s_l00From_k [.t 5 0] [sB l ⟨0,0⟩] fun X=>?_;unfold Cd.qE
 repeat' first|simp -dsimp only[go_sem,Int.reduceBEq,Int.reduceBNe,cC,aG,List.replicate_succ,List.replicate_zero,List.flatten_cons,List.flatten_nil,List.cons_append,List.nil_append,List.set_cons_zero,List.set_cons_succ,List.length_cons,List.length_nil,List.length_set,List.mem_singleton,List.mem_cons,List.not_mem_nil,or_false,false_or,Vs.Name.t.injEq,List.getD_cons_zero,List.getD_cons_succ,aZ,bA,bN,sB,List.append_nil,List.flatMap_cons,List.flatMap_nil]|apply Br.mk<;>intro h<;>try simp -dsimp only[h]|refine aC ?_|fail
 all_goals exact⟨_,_,rfl,rfl⟩
theorem aMf (l m:List Int):Fz F.rF [.sl 1 (E cU l),.sl 1 (E cU m)] (.v (.bool (decide ((l.length:Int)>3000)||decide ((m.length:Int)>3000)))):=by
 refine fn0 Cd.l_a2Long_k fun X=>?_
 repeat' first|simp -dsimp only[go_sem,aG]|apply Br.mk<;>intro h<;>try simp -dsimp only[h]|refine aC ?_|fail
 all_goals(first|(simp_all [aG];done)|(refine aS ?_;simp_all [aG];done)|(simp_all [aG];omega))
end
section
variable [Vs.Envs]
attribute [local irreducible] Vs.Fn nxV nxS pkV pkS ptN crd dV dtF uT
open Go.Vs.Q in
def CdV.l15Spoil:aD:=s [m 4 0,o 5 (.call (.func F.aI) [4,(k 8)] [0])] [0,1,5]<|.block 0 (s [en 7 5 0,m 6 7] [0,1,5,6]<|.cond 6 (.region [m 8 1,m 9 0,o 10 (.bslice 1 4 [.v (.int .i64 (0))] [(0,(k 0)),(1,(k 7)),(2,(k 8)),(3,(k (-1)))]),o 11 (.call (.func F.bM) [9,10] [0]),nc 12 8,fa 13 0
 12,⟨none,.store 1 13 11,none⟩] [] []) (s [en 15 5 1,m 14 15] [0,1,5,14]<|.cond 14 (.region [m 16 1,m 17 0,o 18 (.bslice 1 3 [.v (.int .i64 (0))] [(0,(k (-1))),(1,(k 5)),(2,(k 6))]),o 19 (.call (.func F.bM) [17,18] [0]),nc 20 16,fa 21 1 20,⟨none,.store 1 21 19,none⟩] [] []) (s [en 23
 5 2,m 22 23] [0,1,5,22]<|.cond 22 (.region [m 24 1,m 25 0,o 26 (.bslice 1 4 [.v (.int .i64 (0))] [(0,(k (-1))),(1,(k 1)),(2,(k 5)),(3,(k 6))]),o 27 (.call (.func F.bM) [25,26] [0]),nc 28 24,fa 29 2 28,⟨none,.store 1 29 27,none⟩] [] []) (s [en 31 5 3,m 30 31] [0,1,5,30]<|.cond 30
 (.region [m 32 1,m 33 0,o 34 (.bslice 1 3 [.v (.int .i64 (0))] [(0,(k (-1))),(1,(k 5)),(2,(k 6))]),o 35 (.call (.func F.bM) [33,34] [0]),nc 36 32,fa 37 3 36,⟨none,.store 1 37 35,none⟩] [] []) (s [en 39 5 4,m 38 39] [0,1,5,38]<|.cond 38 (.region [m 40 1,m 41 0,o 42 (.call (.func
 F.qV) [41,(k 5)] [0]),nc 43 40,fa 44 4 43,⟨none,.store 2 44 42,none⟩] [] []) (s [en 46 5 5,m 45 46] [0,1,5,45]<|.cond 45 (.region [m 47 1,m 48 0,o 49 (.call (.func F.qV) [48,(k 5)] [0]),nc 50 47,fa 51 6 50,⟨none,.store 2 51 49,none⟩] [] []) (s [en 53 5 6,m 52 53]
 [0,1,5,52]<|.cond 52 (.region [m 54 1,m 55 0,o 56 (.bslice 1 4 [.v (.string ⟨#[]⟩)] [(0,(.const (.string ⟨#[]⟩))),(1,(.const (.string ⟨#[65]⟩))),(2,(.const (.string ⟨#[97]⟩))),(3,(.const (.string ⟨#[65,66]⟩)))]),o 57 (.call (.func F.dE) [55,56] [0]),nc 58 54,fa 59 8 58,⟨none,.store 1
 59 57,none⟩] [] []) (s [en 61 5 7,m 60 61] [0,1,60]<|.cond 60 (.region [m 62 1,m 63 0,o 64 (.call (.func F.aI) [63,(k 2)] [0]),o 65 (.bin .add (k 13) 64),o 66 (.build [.v (.int .i64 (0)),.v (.int .i64 (0))] [(0,1,(k 1)),(1,1,65)]),nc 67 62,fa 68 6 67,⟨none,.store 2 68 66,none⟩] []
 []) .skip))))))))
theorem CdV.l15Spoil_k:CK 70 Tryz.f70 CdV.l15Spoil 69 []:=ck Tryz.func70
attribute [go_sem] CdV.l15Spoil
open Go.Vs.Q in
def CdV.l02DrawField:aD:=s [o 4 (.alloc [.v (.int .i64 (0)),.v (.int .i64 (0))])] [0,1,4]<|.seq (s [m 7 0,o 8 (.call (.func F.bI) [7,(k 12)] [0])] [0,1,4,8]<|.cond 8 (s [m 9 0,m 10 1,o 11 (.bslice 1 6 [.v (.int .i64 (0))] [(0,(k (-1))),(1,(k 0)),(2,(k 1)),(3,10),(4,(k 9223372036854775807)),(5,(k
 (-9223372036854775808)))]),o 12 (.call (.func F.bM) [9,11] [0]),m 5 12] [0,1,4,5]<|s [m 13 5,m 14 0,m 15 1,m 16 1,ad 17 16 1,o 18 (.bslice 1 5 [.v (.int .i64 (0))] [(0,(k 0)),(1,(k 1)),(2,15),(3,17),(4,(k 9223372036854775807))]),o 19 (.call (.func F.bM) [14,18]
 [0]),o 20 (.build [.v (.int .i64 (0)),.v (.int .i64 (0))] [(0,1,13),(1,1,19)]),⟨none,.store 2 4 20,none⟩] [4]<|.ret) .skip)<|s [m 21 0,m 22 1,c 23 F.tK [(k 1),22],o 24 (.call (.func F.aI) [21,23] [0]),m 6 24] [0,1,4,6]<|s [m 25 6,m 26 6,ad 27 26 1,m 28 0,m 29 1,m 30 6,o 31
 (.bin .sub 29 30),c 32 F.tK [(k 1),31],o 33 (.call (.func F.aI) [28,32] [0]),o 34 (.bin .add 27 33),o 35 (.build [.v (.int .i64 (0)),.v (.int .i64 (0))] [(0,1,25),(1,1,34)]),⟨none,.store 2 4 35,none⟩] [4]<|.ret
theorem CdV.l02DrawField_k:CK 93 Tryz.f93 CdV.l02DrawField 36 [.cell 4 26]:=ck Tryz.func93
attribute [go_sem] CdV.l02DrawField
theorem aI1 (a b:Int):Fz F.tK [.v (.int .i64 a),.v (.int .i64 b)] (.v (.int .i64 (if a>b then a else b))):=by
 refine fn0 Cd.s_l00Max_k fun X=>?_
 repeat' first|simp -dsimp only[go_sem]|apply Br.mk<;>intro h<;>try simp -dsimp only[h]|refine aC ?_|fail
 all_goals(first|(refine aS ?_;simp_all;done)|(simp_all;done)|(simp_all;omega))
attribute [local go_sem] Int.reduceBEq Int.reduceBNe cC aG List.replicate_succ List.replicate_zero List.flatten_cons List.flatten_nil List.cons_append List.nil_append List.set_cons_zero List.set_cons_succ List.length_cons List.length_nil List.length_set List.mem_singleton List.mem_cons List.not_mem_nil or_false false_or Vs.Name.t.injEq List.getD_cons_zero List.getD_cons_succ aZ bA bN List.append_nil List.flatMap_cons List.flatMap_nil Int.reduceAdd Int.reduceSub in
theorem aCq (l:List Int) (x:Sr) (hl:byt l) (hp:x.p≤2900):∃f0 f1 z,z.p≤x.p+8∧Vs.Fn Tryz.prog F.qV [sB l x] [.ptr (.b 0) 0 0,.v (.int .i64 5)] (.agg [.v (.int .i64 f0),.v (.int .i64 f1)]) [some (sB l z)]:=by
 have P1:=one l x hl 12 (by omega);have q1:=bC l x 12;obtain⟨b1,hb1⟩:∃b,(pkV l x 12==0)=b:=⟨_,rfl⟩;rw[hb1] at P1;generalize pkS l x 12=y1 at *
 cases b1
 ·have h2:=dF hl y1 (n:=5) (by omega);have P2:=pick l y1 hl 5 (by omega);have q2:=bC l y1 5;generalize pkV l y1 5=v2 at *
  generalize pkS l y1 5=y2 at *
  have M1:=aI1 1 5;rw[show(if(1:Int)>5 then(1:Int) else 5)=5 from rfl] at M1;have w5:IntKind.i64.wrap (5-v2)=5-v2:=aO (by omega) (by omega);have M2:=aI1 1 (5-v2);rw[show(if(1:Int)>5-v2 then(1:Int) else 5-v2)=5-v2 by split<;>omega] at M2;have P3:=pick l y2 hl (5-v2) (by omega);have q3:=bC l y2 (5-v2);generalize pkV l y2 (5-v2)=v3 at *
  generalize pkS l y2 (5-v2)=z at *
  refine⟨v2,IntKind.i64.wrap (IntKind.i64.wrap (v2+1)+v3),z,by omega,?_⟩;refine fn1 CdV.l02DrawField_k [.b 0] [sB l z] fun X=>?_;unfold CdV.l02DrawField
  repeat' first|simp -dsimp only[go_sem,sB,w5]|apply Br.mk<;>intro h<;>try simp -dsimp only[h]|refine aA.bor (by first|exact P1|exact P2|exact P3) rfl ?_|refine aA.c (by first|exact M1|exact M2) ?_|refine aC ?_|fail
  all_goals first|exact⟨_,_,rfl,rfl⟩
 ·have A1:=among l y1 hl [-1,0,1,5,9223372036854775807,-9223372036854775808] (by omega) (by simp) (by simp);have q2:=bC l y1 (([-1,0,1,5,9223372036854775807,-9223372036854775808]:List Int).length:Nat);generalize([-1,0,1,5,9223372036854775807,-9223372036854775808]:List Int).getD _ 0=v2 at *
  generalize pkS l y1 (([-1,0,1,5,9223372036854775807,-9223372036854775808]:List Int).length:Nat)=y2 at *
  have A2:=among l y2 hl [0,1,5,6,9223372036854775807] (by omega) (by simp) (by simp);have q3:=bC l y2 (([0,1,5,6,9223372036854775807]:List Int).length:Nat);generalize([0,1,5,6,9223372036854775807]:List Int).getD _ 0=v3 at *
  generalize pkS l y2 (([0,1,5,6,9223372036854775807]:List Int).length:Nat)=z at *
  have w6:IntKind.i64.wrap (5+1)=6:=rfl;refine⟨v2,v3,z,by omega,?_⟩;refine fn1 CdV.l02DrawField_k [.b 0] [sB l z] fun X=>?_;unfold CdV.l02DrawField
  repeat' first|simp -dsimp only[go_sem,sB,w6]|apply Br.mk<;>intro h<;>try simp -dsimp only[h]|refine aA.bor (by first|exact P1) rfl ?_|refine aA.borM (by first|exact A1|exact A2) rfl ?_|refine aC ?_|fail
  all_goals first|exact⟨_,_,rfl,rfl⟩
theorem aBr {o:List Stp}{i:Nat} (hi:i<o.length):(E cS o).getD i []=[.v (.int .i64 o[i].kind),.v (.int .i64 o[i].a),.v (.int .i64 o[i].b),.v (.int .i64 o[i].to),.v (.int .i64 o[i].f0),.v (.int .i64 o[i].f1),.v (.int .i64 o[i].s0),.v (.int .i64 o[i].s1),.v (.string o[i].text)]:=aT hi
theorem xI (o:List Stp) (i:Nat) (y:Stp):(E cS o).set i [.v (.int .i64 y.kind),.v (.int .i64 y.a),.v (.int .i64 y.b),.v (.int .i64 y.to),.v (.int .i64 y.f0),.v (.int .i64 y.f1),.v (.int .i64 y.s0),.v (.int .i64 y.s1),.v (.string y.text)]=E cS (o.set i y):=by simp[E,List.map_set,cS]
theorem spW {p:Prop} (h:p:=by
  refine fn1 CdV.l15Spoil_k [.b 0,.b 1] [sB l z,.arr 9 (E cS (o.set i ns)) false] fun X=>?_;unfold CdV.l15Spoil
  repeat' first|simp -dsimp only[go_sem,Int.reduceBEq,Int.reduceBNe,cC,aG,List.replicate_succ,List.replicate_zero,List.flatten_cons,List.flatten_nil,List.cons_append,List.nil_append,List.set_cons_zero,List.set_cons_succ,List.length_cons,List.length_nil,List.length_set,List.mem_singleton,List.mem_cons,List.not_mem_nil,or_false,false_or,Vs.Name.t.injEq,List.getD_cons_zero,List.getD_cons_succ,aZ,bA,bN,sB,List.append_nil,List.flatMap_cons,List.flatMap_nil,Int.reduceAdd,Int.reduceSub,Vs.Name.b.injEq,Nat.one_ne_zero,Nat.zero_ne_one,and_true,and_false,true_and,false_and,cS,hlo,hgi,hst,aG,List.getD_cons_zero,List.getD_cons_succ,List.set_cons_zero,List.set_cons_succ,List.take_succ_cons,List.take_zero,List.drop_succ_cons,List.drop_zero,List.cons_append,List.nil_append]|apply Br.mk<;>intro h<;>try simp -dsimp only[h]|refine aA.bor (by first|exact P1|exact P2|exact DF) rfl ?_|refine aA.borM (by first|exact A1) rfl ?_|refine aC ?_|fail
  all_goals first|omega|exact⟨_,_,rfl,rfl⟩|(refine⟨⟨by omega,by omega⟩,?_⟩;exact⟨_,_,rfl,rfl⟩)):p:=h
theorem tx4 (i:Nat):(([⟨#[]⟩,⟨#[65]⟩,⟨#[97]⟩,⟨#[65,66]⟩]:List ByteArray).getD i ⟨#[]⟩).size≤2:=by
 rcases i with _|_|_|_|i<;>first|decide|exact Nat.zero_le _
theorem aK7 (l:List Int) (x:Sr) (hl:byt l) (hp:x.p≤2800) (o:List Stp) (i:Nat) (hi:i<o.length) (ho:o.length≤100) (hsz:o[i].text.size≤2):∃s z,z.p≤x.p+20∧s.text.size≤2∧Vs.Fn Tryz.prog F.nP [sB l x,.arr 9 (E cS o) false] [.ptr (.b 0) 0 0,.ptr (.b 1) i 0] (.tup []) [some (sB l z),some (.arr 9 (E cS (o.set i s)) false)]:=by
 have hlo:(E cS o).length=o.length:=aG _;have P1:=pick l x hl 8 (by omega);have q1:=bC l x 8;have h1:=dF hl x (n:=8) (by omega);generalize pkV l x 8=v1 at *
 generalize pkS l x 8=y1 at *
 have hv:v1=0∨v1=1∨v1=2∨v1=3∨v1=4∨v1=5∨v1=6∨v1=7:=by omega
 rcases hv with rfl|rfl|rfl|rfl|rfl|rfl|rfl|rfl
 ·have A1:=among l y1 hl [0,7,8,-1] (by omega) (by simp) (by simp);have q2:=bC l y1 (([0,7,8,-1]:List Int).length:Nat);generalize([0,7,8,-1]:List Int).getD _ 0=w at *
  generalize pkS l y1 (([0,7,8,-1]:List Int).length:Nat)=z at *
  refine⟨⟨w,o[i].a,o[i].b,o[i].to,o[i].f0,o[i].f1,o[i].s0,o[i].s1,o[i].text⟩,z,by omega,by show o[i].text.size≤2;exact hsz,?_⟩;have hgi:=aBr hi;have hst:=xI o i ⟨w,o[i].a,o[i].b,o[i].to,o[i].f0,o[i].f1,o[i].s0,o[i].s1,o[i].text⟩;dsimp only at hst;generalize o[i]=s at *
  generalize(⟨w,s.a,s.b,s.to,s.f0,s.f1,s.s0,s.s1,s.text⟩:Stp)=ns at *
  exact spW
 ·have A1:=among l y1 hl [-1,5,6] (by omega) (by simp) (by simp);have q2:=bC l y1 (([-1,5,6]:List Int).length:Nat);generalize([-1,5,6]:List Int).getD _ 0=w at *
  generalize pkS l y1 (([-1,5,6]:List Int).length:Nat)=z at *
  refine⟨⟨o[i].kind,w,o[i].b,o[i].to,o[i].f0,o[i].f1,o[i].s0,o[i].s1,o[i].text⟩,z,by omega,by show o[i].text.size≤2;exact hsz,?_⟩;have hgi:=aBr hi;have hst:=xI o i ⟨o[i].kind,w,o[i].b,o[i].to,o[i].f0,o[i].f1,o[i].s0,o[i].s1,o[i].text⟩;dsimp only at hst;generalize o[i]=s at *
  generalize(⟨s.kind,w,s.b,s.to,s.f0,s.f1,s.s0,s.s1,s.text⟩:Stp)=ns at *
  exact spW
 ·have A1:=among l y1 hl [-1,1,5,6] (by omega) (by simp) (by simp);have q2:=bC l y1 (([-1,1,5,6]:List Int).length:Nat);generalize([-1,1,5,6]:List Int).getD _ 0=w at *
  generalize pkS l y1 (([-1,1,5,6]:List Int).length:Nat)=z at *
  refine⟨⟨o[i].kind,o[i].a,w,o[i].to,o[i].f0,o[i].f1,o[i].s0,o[i].s1,o[i].text⟩,z,by omega,by show o[i].text.size≤2;exact hsz,?_⟩;have hgi:=aBr hi;have hst:=xI o i ⟨o[i].kind,o[i].a,w,o[i].to,o[i].f0,o[i].f1,o[i].s0,o[i].s1,o[i].text⟩;dsimp only at hst;generalize o[i]=s at *
  generalize(⟨s.kind,s.a,w,s.to,s.f0,s.f1,s.s0,s.s1,s.text⟩:Stp)=ns at *
  exact spW
 ·have A1:=among l y1 hl [-1,5,6] (by omega) (by simp) (by simp);have q2:=bC l y1 (([-1,5,6]:List Int).length:Nat);generalize([-1,5,6]:List Int).getD _ 0=w at *
  generalize pkS l y1 (([-1,5,6]:List Int).length:Nat)=z at *
  refine⟨⟨o[i].kind,o[i].a,o[i].b,w,o[i].f0,o[i].f1,o[i].s0,o[i].s1,o[i].text⟩,z,by omega,by show o[i].text.size≤2;exact hsz,?_⟩;have hgi:=aBr hi;have hst:=xI o i ⟨o[i].kind,o[i].a,o[i].b,w,o[i].f0,o[i].f1,o[i].s0,o[i].s1,o[i].text⟩;dsimp only at hst;generalize o[i]=s at *
  generalize(⟨s.kind,s.a,s.b,w,s.f0,s.f1,s.s0,s.s1,s.text⟩:Stp)=ns at *
  exact spW
 ·obtain⟨w0,w1,z,q2,DF⟩:=aCq l y1 hl (by omega);refine⟨⟨o[i].kind,o[i].a,o[i].b,o[i].to,w0,w1,o[i].s0,o[i].s1,o[i].text⟩,z,by omega,by show o[i].text.size≤2;exact hsz,?_⟩;have hgi:=aBr hi;have hst:=xI o i ⟨o[i].kind,o[i].a,o[i].b,o[i].to,w0,w1,o[i].s0,o[i].s1,o[i].text⟩;dsimp only at hst;generalize o[i]=s at *
  generalize(⟨s.kind,s.a,s.b,s.to,w0,w1,s.s0,s.s1,s.text⟩:Stp)=ns at *
  exact spW
 ·obtain⟨w0,w1,z,q2,DF⟩:=aCq l y1 hl (by omega);refine⟨⟨o[i].kind,o[i].a,o[i].b,o[i].to,o[i].f0,o[i].f1,w0,w1,o[i].text⟩,z,by omega,by show o[i].text.size≤2;exact hsz,?_⟩;have hgi:=aBr hi;have hst:=xI o i ⟨o[i].kind,o[i].a,o[i].b,o[i].to,o[i].f0,o[i].f1,w0,w1,o[i].text⟩;dsimp only at hst;generalize o[i]=s at *
  generalize(⟨s.kind,s.a,s.b,s.to,s.f0,s.f1,w0,w1,s.text⟩:Stp)=ns at *
  exact spW
 ·have A1:=text l y1 hl [⟨#[]⟩,⟨#[65]⟩,⟨#[97]⟩,⟨#[65,66]⟩] (by omega) (by simp) (by simp);have q2:=bC l y1 (([⟨#[]⟩,⟨#[65]⟩,⟨#[97]⟩,⟨#[65,66]⟩]:List ByteArray).length:Nat);have hts:(([⟨#[]⟩,⟨#[65]⟩,⟨#[97]⟩,⟨#[65,66]⟩]:List ByteArray).getD (pkV l y1 (([⟨#[]⟩,⟨#[65]⟩,⟨#[97]⟩,⟨#[65,66]⟩]:List ByteArray).length:Nat)).toNat ⟨#[]⟩).size≤2:=tx4 _;unfold cSt at A1;simp only[Vs.E,List.map_cons,List.map_nil] at A1;generalize([⟨#[]⟩,⟨#[65]⟩,⟨#[97]⟩,⟨#[65,66]⟩]:List ByteArray).getD _ ⟨#[]⟩=w at *
  generalize pkS l y1 (([⟨#[]⟩,⟨#[65]⟩,⟨#[97]⟩,⟨#[65,66]⟩]:List ByteArray).length:Nat)=z at *
  refine⟨⟨o[i].kind,o[i].a,o[i].b,o[i].to,o[i].f0,o[i].f1,o[i].s0,o[i].s1,w⟩,z,by omega,hts,?_⟩;have hgi:=aBr hi;have hst:=xI o i ⟨o[i].kind,o[i].a,o[i].b,o[i].to,o[i].f0,o[i].f1,o[i].s0,o[i].s1,w⟩;dsimp only at hst;generalize o[i]=s at *
  generalize(⟨s.kind,s.a,s.b,s.to,s.f0,s.f1,s.s0,s.s1,w⟩:Stp)=ns at *
  exact spW
 ·have P2:=pick l y1 hl 2 (by omega);have q2:=bC l y1 2;generalize pkV l y1 2=w at *
  generalize pkS l y1 2=z at *
  refine⟨⟨o[i].kind,o[i].a,o[i].b,o[i].to,o[i].f0,o[i].f1,1,IntKind.i64.wrap (13+w),o[i].text⟩,z,by omega,by show o[i].text.size≤2;exact hsz,?_⟩;have hgi:=aBr hi;have hst:=xI o i ⟨o[i].kind,o[i].a,o[i].b,o[i].to,o[i].f0,o[i].f1,1,IntKind.i64.wrap (13+w),o[i].text⟩;dsimp only at hst;generalize o[i]=s at *
  generalize(⟨s.kind,s.a,s.b,s.to,s.f0,s.f1,1,IntKind.i64.wrap (13+w),s.text⟩:Stp)=ns at *
  exact spW
end
section
variable [Vs.Envs]
attribute [local irreducible] Vs.Fn nxV nxS pkV pkS ptN crd dV dtF uT
open Go.Vs.Q in
def CdV.l15DrawFlow:aD:=s [mn 2] [0]<|.seq (.naming 3 (.region [o 8 (.bslice 9 0 [.v (.int .i64 (0)),.v (.int .i64 (0)),.v (.int .i64 (0)),.v (.int .i64 (0)),.v (.int .i64 (0)),.v (.int .i64 (0)),.v (.int .i64 (0)),.v (.int .i64 (0)),.v (.string ⟨#[]⟩)] []),m 3 8] [0,3] []))<|.seq (s [m 9 0,o 10 (.call (.func
 F.bI) [9,(k 2)] [0])] [0,3,10]<|.cond 10 (s [m 11 0,o 12 (.call (.func F.aI) [11,(k 3)] [0]),m 4 12] [0,3,4]<|.naming 3 (.region [m 13 3,o 14 (.build [.v (.int .i64 (0)),.v (.int .i64 (0))] [(1,1,(k 1))]),m 15 4,o 16 (.build [.v (.int .i64 (0)),.v (.int .i64 (0)),.v
 (.int .i64 (0)),.v (.int .i64 (0)),.v (.int .i64 (0)),.v (.int .i64 (0)),.v (.int .i64 (0)),.v (.int .i64 (0)),.v (.string ⟨#[]⟩)] [(0,1,(k 1)),(4,2,14),(3,1,15)]),o 17 (.bslice 9 1 [.v (.int .i64 (0)),.v (.int .i64 (0)),.v (.int .i64 (0)),.v (.int .i64 (0)),.v (.int .i64 (0)),.v (.int .i64 (0)),.v
 (.int .i64 (0)),.v (.int .i64 (0)),.v (.string ⟨#[]⟩)] [(0,16)]),o 18 (.append 9 80 13 17),m 3 18] [0,3] [])) .skip)<|.seq (s [m 19 0,o 20 (.call (.func F.aI) [19,(k 6)] [0]),m 5 20] [0,3,5]<|.block 0 (.loop (.seq (s [m 21 5,o 22 (.bin .gtr 21 (k 0))] [0,3,5,22]<|.cond 22 .skip
 (.exit 0))<|.seq (.block 1 (.naming 3 (.region [m 25 3,m 26 0,o 27 (.call (.func F.iD) [26] [0]),o 28 (.bslice 9 1 [.v (.int .i64 (0)),.v (.int .i64 (0)),.v (.int .i64 (0)),.v (.int .i64 (0)),.v (.int .i64 (0)),.v (.int .i64 (0)),.v (.int .i64 (0)),.v (.int .i64 (0)),.v (.string ⟨#[]⟩)]
 [(0,27)]),o 29 (.append 9 80 25 28),m 3 29] [0,3,5] [])))<|.region [m 23 5,o 24 (.bin .sub 23 (k 1)),m 5 24] [0,3,5] [])))<|s [m 30 3,ln 31 30,m 6 31] [0,3,6]<|.seq (s [m 32 6,o 33 (.bin .gtr 32 (k 0)),m 34 33,mg 35 0 34 true,⟨some 36,.call (.func F.bI) [35,(k 10)] [0],some
 (34,true)⟩,pf 37 34 36] [0,3,6,37]<|.cond 37 (.region [m 38 0,m 39 3,m 40 0,m 41 6,o 42 (.call (.func F.aI) [40,41] [0]),ix 43 9 39 42,o 44 (.call (.func F.nP) [38,43] [0,1])] [0,3] []) .skip)<|.seq (s [m 45 0,o 46 (.call (.func F.bI) [45,(k 24)] [0])]
 [0,3,46]<|.cond 46 (.seq (.naming 3 (.region [o 47 (.bslice 9 0 [.v (.int .i64 (0)),.v (.int .i64 (0)),.v (.int .i64 (0)),.v (.int .i64 (0)),.v (.int .i64 (0)),.v (.int .i64 (0)),.v (.int .i64 (0)),.v (.int .i64 (0)),.v (.string ⟨#[]⟩)] []),m 3 47] [0,3] []))<|s [m 48 0,o 49 (.call (.func
 F.aI) [48,(k 2)] [0]),o 50 (.bin .add (k 20) 49),m 7 50] [3,7]<|.block 2 (.loop (.seq (s [m 51 7,o 52 (.bin .gtr 51 (k 0))] [3,7,52]<|.cond 52 .skip (.exit 2))<|.seq (.block 3 (.naming 3 (.region [m 55 3,o 56 (.build [.v (.int .i64 (0)),.v (.int .i64 (0))] [(1,1,(k 1))]),o 57 (.build
 [.v (.int .i64 (0)),.v (.int .i64 (0))] [(0,1,(k 1)),(1,1,(k 3))]),o 58 (.build [.v (.int .i64 (0)),.v (.int .i64 (0)),.v (.int .i64 (0)),.v (.int .i64 (0)),.v (.int .i64 (0)),.v (.int .i64 (0)),.v (.int .i64 (0)),.v (.int .i64 (0)),.v (.string ⟨#[]⟩)] [(0,1,(k 7)),(4,2,56),(6,2,57)]),o 59 (.bslice 9
 1 [.v (.int .i64 (0)),.v (.int .i64 (0)),.v (.int .i64 (0)),.v (.int .i64 (0)),.v (.int .i64 (0)),.v (.int .i64 (0)),.v (.int .i64 (0)),.v (.int .i64 (0)),.v (.string ⟨#[]⟩)] [(0,58)]),o 60 (.append 9 80 55 59),m 3 60] [3,7] [])))<|.region [m 53 7,o 54 (.bin .sub 53 (k 1)),m 7 54] [3,7] [])))
 .skip)<|s [m 61 3,m 2 61] [2]<|.ret
theorem CdV.l15DrawFlow_k:CK 44 Tryz.f44 CdV.l15DrawFlow 62 [.tmp 2]:=ck Tryz.func44
attribute [go_sem] CdV.l15DrawFlow
def okZ (o:List Stp):Prop:=∀s,s∈o→s.text.size≤2
theorem aKm {o:List Stp}{s:Stp} (h:okZ o) (hs:s.text.size≤2):okZ (o++[s]):=by
 intro t ht;rcases List.mem_append.1 ht with ht|ht
 ·exact h t ht
 ·rw[List.mem_singleton.1 ht];exact hs
theorem aGz {o:List Stp}{s:Stp}{i:Nat} (h:okZ o) (hs:s.text.size≤2):okZ (o.set i s):=by
 intro t ht;rcases List.mem_or_eq_of_mem_set ht with ht|rfl
 ·exact h t ht
 ·exact hs
def stU (l:List Int):Nat→Sr→List Stp→List Stp→Sr→Prop
 |0,x,o,o',x'=>o'=o∧x'=x
 |k+1,x,o,o',x'=>∃s x1,s.text.size≤2∧x1.p≤x.p+30∧Vs.Fn Tryz.prog F.iD [sB l x] [.ptr (.b 0) 0 0] (.agg (cS s)) [some (sB l x1)]∧stU l k x1 (o++[s]) o' x'
theorem aFq {l:List Int} (hl:byt l):∀(k:Nat) (x:Sr) (o:List Stp),x.p+30*k≤2900→okZ o→∃o' x',(x'.p≤x.p+30*k∧o'.length=o.length+k∧okZ o')∧stU l k x o o' x'
 |0,x,o,_,h=>⟨o,x,⟨by omega,by omega,h⟩,rfl,rfl⟩
 | k+1,x,o,h,ho=>by
  obtain⟨s,x1,hs,hx1,hf⟩:=aJo l x hl (by omega);obtain⟨o',x',⟨h1,h2,h3⟩,h4⟩:=aFq hl k x1 (o++[s]) (by omega) (aKm ho hs);exact⟨o',x',⟨by omega,by rw[h2,List.length_append,List.length_singleton];omega,h3⟩,s,x1,hs,hx1,hf,h4⟩
abbrev O1 (l:List Int) (y:Sr) (n:Int) (b:Bool) (z:Sr):Prop:=Vs.Fn Tryz.prog F.bI [sB l y] [.ptr (.b 0) 0 0,.v (.int .i64 n)] (.v (.bool b)) [some (sB l z)]
abbrev PK (l:List Int) (y:Sr) (n v:Int) (z:Sr):Prop:=Vs.Fn Tryz.prog F.aI [sB l y] [.ptr (.b 0) 0 0,.v (.int .i64 n)] (.v (.int .i64 v)) [some (sB l z)]
def aDC (t:Int):Stp:=⟨1,0,0,t,0,1,0,0,⟨#[]⟩⟩
def totS:Stp:=⟨7,0,0,0,0,1,1,3,⟨#[]⟩⟩
def qM (n:Nat):List Stp:=List.replicate n totS
theorem qL (n:Nat):(qM n).length=n:=List.length_replicate ..
theorem xW (n:Nat):okZ (qM n):=by
 intro t ht;unfold qM at ht;rw[(List.mem_replicate.1 ht).2];exact Nat.zero_le _
theorem aIz (n:Nat):E cS (qM n)++[[.v (.int .i64 7),.v (.int .i64 0),.v (.int .i64 0),.v (.int .i64 0),.v (.int .i64 0),.v (.int .i64 1),.v (.int .i64 1),.v (.int .i64 3),.v (.string ⟨#[]⟩)]]=E cS (qM (n+1)):=by
 unfold qM;rw[List.replicate_succ',aR];rfl
theorem aHc:E cS (qM 0)=[]:=rfl
section
attribute [local go_sem] Int.reduceBEq Int.reduceBNe cC aG List.replicate_succ List.replicate_zero List.flatten_cons List.flatten_nil List.cons_append List.nil_append List.set_cons_zero List.set_cons_succ List.length_cons List.length_nil List.length_set List.mem_singleton List.mem_cons List.not_mem_nil or_false false_or Vs.Name.t.injEq List.getD_cons_zero List.getD_cons_succ aZ bA bN sB List.append_nil List.flatMap_cons List.flatMap_nil cS aG List.take_succ_cons List.take_zero List.drop_succ_cons List.drop_zero Vs.Name.b.injEq Nat.one_ne_zero Nat.zero_ne_one and_true and_false true_and false_and
set_option maxRecDepth 20000 in
theorem dfW {p:Prop} (h:p:=by
  first
    |refine fn1 CdV.l15DrawFlow_k [.b 0] [sB l y9] fun X=>?_
    |refine fn1 CdV.l15DrawFlow_k [.b 0] [sB l y8] fun X=>?_
  unfold CdV.l15DrawFlow
  repeat' first|simp -dsimp only[go_sem,e0,w20]|apply Br.mk<;>intro h<;>try simp -dsimp only[h]|refine aA.bor (by first|exact P2|exact P6|exact PT) rfl ?_|refine aC ?_|fail
  refine aN.at dM (X:={zz:Nat×Sr×List Stp // (zz.2.1.p+30*zz.1≤2700)∧(zz.1+zz.2.2.length≤6)∧stU l zz.1 zz.2.1 zz.2.2 o1 y4}) (fun zz=>[(3,.loc (.t 3 0) 0 zz.1.2.2.length),(5,.v (.int .i64 (zz.1.1:Nat)))]) (fun zz=>[(.b 0,sB l zz.1.2.1),(.t 3 0,.arr 9 (E cS zz.1.2.2) false)]) (fun zz=>zz.1.1) (by first|exact⟨(k0,y3,[]),by dsimp only;omega,by dsimp only;simp only[List.length_nil,List.length_cons];omega,hT⟩|exact⟨(k0,y3,[aDC to]),by dsimp only;omega,by dsimp only;simp only[List.length_nil,List.length_cons];omega,hT⟩) ?_ ?_
  · simp[Vs.LeL,Vs.look,Vs.aB,Vs.aP,Vs.aK,Vs.hset,Vs.aL,Vs.E,sB,cS,aDC]
  · rintro⟨⟨k,y,o⟩,hk1,hk2,hr⟩
    dsimp only at hk1 hk2 hr;simp -dsimp only[go_sem];refine Br.mk (fun hc=>?_) fun hc=>?_
    · obtain⟨k,rfl⟩:∃j,k=j+1:=⟨k-1,by simp at hc;omega⟩
      have w:=subK (k:=k) (by omega);obtain⟨s,y1',hs,hy1,hf,hr⟩:=hr;have hap:E cS o++[[.v (.int .i64 s.kind),.v (.int .i64 s.a),.v (.int .i64 s.b),.v (.int .i64 s.to),.v (.int .i64 s.f0),.v (.int .i64 s.f1),.v (.int .i64 s.s0),.v (.int .i64 s.s1),.v (.string s.text)]]=E cS (o++[s]):=by rw[aR];rfl
      repeat' first|simp -dsimp only[go_sem,w,hap]|apply Br.mk<;>intro h<;>try simp -dsimp only[h]|refine aA.bor (by first|exact hf) rfl ?_|refine aC ?_|fail

      all_goals first|omega|(refine⟨⟨(k,y1',o++[s]),by dsimp only;omega,by dsimp only;rw[List.length_append];simp only[List.length_cons,List.length_nil];omega,hr⟩,?_,by simp only;omega⟩;simp[Vs.LeL,Vs.look,Vs.aB,Vs.aP,Vs.aK,Vs.hset,Vs.aL,Vs.E,sB,cS];done)
    · obtain rfl:k=0:=by simp at hc;omega
      obtain⟨rfl,rfl⟩:=hr;have htk:(E cS o1).take o1.length=E cS o1:=List.take_of_length_le (by rw[aG];exact Nat.le_refl _)
      try have htk2:(E cS (o1.set i9 s9)).take o1.length=E cS (o1.set i9 s9):=List.take_of_length_le (by rw[aG,List.length_set];exact Nat.le_refl _)
      repeat' first|simp -dsimp only[go_sem,e0,w20]|apply Br.mk<;>intro h<;>try simp -dsimp only[h]|refine aA.borG (by first|exact SP) rfl ?_|refine aA.bor (by first|exact P24|exact P10|exact PN|exact P2b) rfl ?_|refine And.intro ?_ (fun h=>absurd rfl h)|refine aC ?_|fail

      all_goals first|omega|exact⟨_,_,rfl,rfl⟩|exact⟨⟨_,_,rfl,rfl⟩,fun h=>absurd rfl h⟩|(refine⟨?_,fun h=>absurd rfl h⟩;exact⟨_,_,rfl,rfl⟩)|(rw[htk];exact⟨_,_,rfl,rfl⟩)|(rw[htk2];exact⟨_,_,rfl,rfl⟩)|skip
      all_goals
        refine aN.at dM (X:={zz:Nat×Nat // zz.1+zz.2=20+e9}) (fun zz=>[(3,.loc (.t 3 0) 0 zz.1.2),(7,.v (.int .i64 (zz.1.1:Nat)))]) (fun zz=>[(.t 3 0,.arr 9 (E cS (qM zz.1.2)) false)]) (fun zz=>zz.1.1) ⟨(20+e9,0),rfl⟩ ?_ ?_
        · simp[Vs.LeL,Vs.look,Vs.aB,Vs.aP,Vs.aK,Vs.hset,Vs.aL,aHc,sB]
        · rintro⟨⟨k,j⟩,hkj⟩
          dsimp only at hkj;have hrl:(E cS (qM j)).length=j:=by rw[aG,qL]
          simp -dsimp only[go_sem,hrl];refine Br.mk (fun hc=>?_) fun hc=>?_
          · obtain⟨k,rfl⟩:∃i,k=i+1:=⟨k-1,by simp at hc;omega⟩
            have w:=subK (k:=k) (by omega);have hap:=aIz j
            repeat' first|simp -dsimp only[go_sem,hrl,w,hap]|apply Br.mk<;>intro h<;>try simp -dsimp only[h]|refine aC ?_|fail

            all_goals first|omega|(refine⟨⟨(k,j+1),by dsimp only;omega⟩,?_,by simp only;omega⟩;simp[Vs.LeL,Vs.look,Vs.aB,Vs.aP,Vs.aK,Vs.hset,Vs.aL];done)
          · obtain rfl:k=0:=by simp at hc;omega
            obtain rfl:j=20+e9:=by omega
            have htk:(E cS (qM (20+e9))).take (20+e9)=E cS (qM (20+e9)):=List.take_of_length_le (by rw[hrl];exact Nat.le_refl _)
            try simp -dsimp only[go_sem,hrl]
            all_goals first|exact⟨⟨_,_,rfl,rfl⟩,fun h=>absurd rfl h⟩|(rw[htk];exact⟨⟨_,_,rfl,rfl⟩,fun h=>absurd rfl h⟩)):p:=h
set_option maxRecDepth 20000 in
theorem df000 (l:List Int) (x:Sr) (hl:byt l) (y1:Sr) (y3:Sr) (y4:Sr) (y8:Sr) (k0:Nat) (o1:List Stp) (P2:O1 l x 2 false y1) (P6:PK l y1 6 (k0:Nat) y3) (hk0:k0≤5) (hy3:y3.p≤2000) (hT:stU l k0 y3 [] o1 y4) (ho1:o1.length≤6) (e0:decide ((o1.length:Int)>0)=false) (P24:O1 l y4 24 false y8) (e9:Nat) (he9:e9≤1) (w20:IntKind.i64.wrap (20+(e9:Int))=((20+e9:Nat):Int)):Vs.Fn Tryz.prog F.bO [sB l x] [.ptr (.b 0) 0 0] (.sl 9 (E cS o1)) [some (sB l y8)]:=dfW
set_option maxRecDepth 20000 in
theorem df001 (l:List Int) (x:Sr) (hl:byt l) (y1:Sr) (y3:Sr) (y4:Sr) (y8:Sr) (k0:Nat) (o1:List Stp) (P2:O1 l x 2 false y1) (P6:PK l y1 6 (k0:Nat) y3) (hk0:k0≤5) (hy3:y3.p≤2000) (hT:stU l k0 y3 [] o1 y4) (ho1:o1.length≤6) (e0:decide ((o1.length:Int)>0)=false) (P24:O1 l y4 24 true y8) (e9:Nat) (he9:e9≤1) (w20:IntKind.i64.wrap (20+(e9:Int))=((20+e9:Nat):Int)) (y9:Sr) (P2b:PK l y8 2 (e9:Nat) y9):Vs.Fn Tryz.prog F.bO [sB l x] [.ptr (.b 0) 0 0] (.sl 9 (E cS (qM (20+e9)))) [some (sB l y9)]:=dfW
set_option maxRecDepth 20000 in
theorem df010 (l:List Int) (x:Sr) (hl:byt l) (y1:Sr) (y3:Sr) (y4:Sr) (y8:Sr) (k0:Nat) (o1:List Stp) (P2:O1 l x 2 false y1) (P6:PK l y1 6 (k0:Nat) y3) (hk0:k0≤5) (hy3:y3.p≤2000) (hT:stU l k0 y3 [] o1 y4) (ho1:o1.length≤6) (e0:decide ((o1.length:Int)>0)=true) (y5:Sr) (P10:O1 l y4 10 false y5) (P24:O1 l y5 24 false y8) (e9:Nat) (he9:e9≤1) (w20:IntKind.i64.wrap (20+(e9:Int))=((20+e9:Nat):Int)):Vs.Fn Tryz.prog F.bO [sB l x] [.ptr (.b 0) 0 0] (.sl 9 (E cS o1)) [some (sB l y8)]:=dfW
set_option maxRecDepth 20000 in
theorem df011 (l:List Int) (x:Sr) (hl:byt l) (y1:Sr) (y3:Sr) (y4:Sr) (y8:Sr) (k0:Nat) (o1:List Stp) (P2:O1 l x 2 false y1) (P6:PK l y1 6 (k0:Nat) y3) (hk0:k0≤5) (hy3:y3.p≤2000) (hT:stU l k0 y3 [] o1 y4) (ho1:o1.length≤6) (e0:decide ((o1.length:Int)>0)=true) (y5:Sr) (P10:O1 l y4 10 false y5) (P24:O1 l y5 24 true y8) (e9:Nat) (he9:e9≤1) (w20:IntKind.i64.wrap (20+(e9:Int))=((20+e9:Nat):Int)) (y9:Sr) (P2b:PK l y8 2 (e9:Nat) y9):Vs.Fn Tryz.prog F.bO [sB l x] [.ptr (.b 0) 0 0] (.sl 9 (E cS (qM (20+e9)))) [some (sB l y9)]:=dfW
set_option maxRecDepth 20000 in
theorem df020 (l:List Int) (x:Sr) (hl:byt l) (y1:Sr) (y3:Sr) (y4:Sr) (y8:Sr) (k0:Nat) (o1:List Stp) (P2:O1 l x 2 false y1) (P6:PK l y1 6 (k0:Nat) y3) (hk0:k0≤5) (hy3:y3.p≤2000) (hT:stU l k0 y3 [] o1 y4) (ho1:o1.length≤6) (e0:decide ((o1.length:Int)>0)=true) (y5:Sr) (P10:O1 l y4 10 true y5) (y6:Sr) (y7:Sr) (i9:Nat) (hi9:i9<o1.length) (s9:Stp) (PN:PK l y5 (o1.length:Nat) (i9:Nat) y6) (SP:Vs.Fn Tryz.prog F.nP [sB l y6,.arr 9 (E cS o1) false] [.ptr (.b 0) 0 0,.ptr (.b 1) i9 0] (.tup []) [some (sB l y7),some (.arr 9 (E cS (o1.set i9 s9)) false)]) (P24:O1 l y7 24 false y8) (e9:Nat) (he9:e9≤1) (w20:IntKind.i64.wrap (20+(e9:Int))=((20+e9:Nat):Int)):Vs.Fn Tryz.prog F.bO [sB l x] [.ptr (.b 0) 0 0] (.sl 9 (E cS (o1.set i9 s9))) [some (sB l y8)]:=dfW
set_option maxRecDepth 20000 in
theorem df021 (l:List Int) (x:Sr) (hl:byt l) (y1:Sr) (y3:Sr) (y4:Sr) (y8:Sr) (k0:Nat) (o1:List Stp) (P2:O1 l x 2 false y1) (P6:PK l y1 6 (k0:Nat) y3) (hk0:k0≤5) (hy3:y3.p≤2000) (hT:stU l k0 y3 [] o1 y4) (ho1:o1.length≤6) (e0:decide ((o1.length:Int)>0)=true) (y5:Sr) (P10:O1 l y4 10 true y5) (y6:Sr) (y7:Sr) (i9:Nat) (hi9:i9<o1.length) (s9:Stp) (PN:PK l y5 (o1.length:Nat) (i9:Nat) y6) (SP:Vs.Fn Tryz.prog F.nP [sB l y6,.arr 9 (E cS o1) false] [.ptr (.b 0) 0 0,.ptr (.b 1) i9 0] (.tup []) [some (sB l y7),some (.arr 9 (E cS (o1.set i9 s9)) false)]) (P24:O1 l y7 24 true y8) (e9:Nat) (he9:e9≤1) (w20:IntKind.i64.wrap (20+(e9:Int))=((20+e9:Nat):Int)) (y9:Sr) (P2b:PK l y8 2 (e9:Nat) y9):Vs.Fn Tryz.prog F.bO [sB l x] [.ptr (.b 0) 0 0] (.sl 9 (E cS (qM (20+e9)))) [some (sB l y9)]:=dfW
set_option maxRecDepth 20000 in
theorem df100 (l:List Int) (x:Sr) (hl:byt l) (y1:Sr) (y3:Sr) (y4:Sr) (y8:Sr) (k0:Nat) (o1:List Stp) (P2:O1 l x 2 true y1) (y2:Sr) (to:Int) (PT:PK l y1 3 to y2) (P6:PK l y2 6 (k0:Nat) y3) (hk0:k0≤5) (hy3:y3.p≤2000) (hT:stU l k0 y3 [aDC to] o1 y4) (ho1:o1.length≤6) (e0:decide ((o1.length:Int)>0)=false) (P24:O1 l y4 24 false y8) (e9:Nat) (he9:e9≤1) (w20:IntKind.i64.wrap (20+(e9:Int))=((20+e9:Nat):Int)):Vs.Fn Tryz.prog F.bO [sB l x] [.ptr (.b 0) 0 0] (.sl 9 (E cS o1)) [some (sB l y8)]:=dfW
set_option maxRecDepth 20000 in
theorem df101 (l:List Int) (x:Sr) (hl:byt l) (y1:Sr) (y3:Sr) (y4:Sr) (y8:Sr) (k0:Nat) (o1:List Stp) (P2:O1 l x 2 true y1) (y2:Sr) (to:Int) (PT:PK l y1 3 to y2) (P6:PK l y2 6 (k0:Nat) y3) (hk0:k0≤5) (hy3:y3.p≤2000) (hT:stU l k0 y3 [aDC to] o1 y4) (ho1:o1.length≤6) (e0:decide ((o1.length:Int)>0)=false) (P24:O1 l y4 24 true y8) (e9:Nat) (he9:e9≤1) (w20:IntKind.i64.wrap (20+(e9:Int))=((20+e9:Nat):Int)) (y9:Sr) (P2b:PK l y8 2 (e9:Nat) y9):Vs.Fn Tryz.prog F.bO [sB l x] [.ptr (.b 0) 0 0] (.sl 9 (E cS (qM (20+e9)))) [some (sB l y9)]:=dfW
set_option maxRecDepth 20000 in
theorem df110 (l:List Int) (x:Sr) (hl:byt l) (y1:Sr) (y3:Sr) (y4:Sr) (y8:Sr) (k0:Nat) (o1:List Stp) (P2:O1 l x 2 true y1) (y2:Sr) (to:Int) (PT:PK l y1 3 to y2) (P6:PK l y2 6 (k0:Nat) y3) (hk0:k0≤5) (hy3:y3.p≤2000) (hT:stU l k0 y3 [aDC to] o1 y4) (ho1:o1.length≤6) (e0:decide ((o1.length:Int)>0)=true) (y5:Sr) (P10:O1 l y4 10 false y5) (P24:O1 l y5 24 false y8) (e9:Nat) (he9:e9≤1) (w20:IntKind.i64.wrap (20+(e9:Int))=((20+e9:Nat):Int)):Vs.Fn Tryz.prog F.bO [sB l x] [.ptr (.b 0) 0 0] (.sl 9 (E cS o1)) [some (sB l y8)]:=dfW
set_option maxRecDepth 20000 in
theorem df111 (l:List Int) (x:Sr) (hl:byt l) (y1:Sr) (y3:Sr) (y4:Sr) (y8:Sr) (k0:Nat) (o1:List Stp) (P2:O1 l x 2 true y1) (y2:Sr) (to:Int) (PT:PK l y1 3 to y2) (P6:PK l y2 6 (k0:Nat) y3) (hk0:k0≤5) (hy3:y3.p≤2000) (hT:stU l k0 y3 [aDC to] o1 y4) (ho1:o1.length≤6) (e0:decide ((o1.length:Int)>0)=true) (y5:Sr) (P10:O1 l y4 10 false y5) (P24:O1 l y5 24 true y8) (e9:Nat) (he9:e9≤1) (w20:IntKind.i64.wrap (20+(e9:Int))=((20+e9:Nat):Int)) (y9:Sr) (P2b:PK l y8 2 (e9:Nat) y9):Vs.Fn Tryz.prog F.bO [sB l x] [.ptr (.b 0) 0 0] (.sl 9 (E cS (qM (20+e9)))) [some (sB l y9)]:=dfW
set_option maxRecDepth 20000 in
theorem df120 (l:List Int) (x:Sr) (hl:byt l) (y1:Sr) (y3:Sr) (y4:Sr) (y8:Sr) (k0:Nat) (o1:List Stp) (P2:O1 l x 2 true y1) (y2:Sr) (to:Int) (PT:PK l y1 3 to y2) (P6:PK l y2 6 (k0:Nat) y3) (hk0:k0≤5) (hy3:y3.p≤2000) (hT:stU l k0 y3 [aDC to] o1 y4) (ho1:o1.length≤6) (e0:decide ((o1.length:Int)>0)=true) (y5:Sr) (P10:O1 l y4 10 true y5) (y6:Sr) (y7:Sr) (i9:Nat) (hi9:i9<o1.length) (s9:Stp) (PN:PK l y5 (o1.length:Nat) (i9:Nat) y6) (SP:Vs.Fn Tryz.prog F.nP [sB l y6,.arr 9 (E cS o1) false] [.ptr (.b 0) 0 0,.ptr (.b 1) i9 0] (.tup []) [some (sB l y7),some (.arr 9 (E cS (o1.set i9 s9)) false)]) (P24:O1 l y7 24 false y8) (e9:Nat) (he9:e9≤1) (w20:IntKind.i64.wrap (20+(e9:Int))=((20+e9:Nat):Int)):Vs.Fn Tryz.prog F.bO [sB l x] [.ptr (.b 0) 0 0] (.sl 9 (E cS (o1.set i9 s9))) [some (sB l y8)]:=dfW
set_option maxRecDepth 20000 in
theorem df121 (l:List Int) (x:Sr) (hl:byt l) (y1:Sr) (y3:Sr) (y4:Sr) (y8:Sr) (k0:Nat) (o1:List Stp) (P2:O1 l x 2 true y1) (y2:Sr) (to:Int) (PT:PK l y1 3 to y2) (P6:PK l y2 6 (k0:Nat) y3) (hk0:k0≤5) (hy3:y3.p≤2000) (hT:stU l k0 y3 [aDC to] o1 y4) (ho1:o1.length≤6) (e0:decide ((o1.length:Int)>0)=true) (y5:Sr) (P10:O1 l y4 10 true y5) (y6:Sr) (y7:Sr) (i9:Nat) (hi9:i9<o1.length) (s9:Stp) (PN:PK l y5 (o1.length:Nat) (i9:Nat) y6) (SP:Vs.Fn Tryz.prog F.nP [sB l y6,.arr 9 (E cS o1) false] [.ptr (.b 0) 0 0,.ptr (.b 1) i9 0] (.tup []) [some (sB l y7),some (.arr 9 (E cS (o1.set i9 s9)) false)]) (P24:O1 l y7 24 true y8) (e9:Nat) (he9:e9≤1) (w20:IntKind.i64.wrap (20+(e9:Int))=((20+e9:Nat):Int)) (y9:Sr) (P2b:PK l y8 2 (e9:Nat) y9):Vs.Fn Tryz.prog F.bO [sB l x] [.ptr (.b 0) 0 0] (.sl 9 (E cS (qM (20+e9)))) [some (sB l y9)]:=dfW
end
set_option maxRecDepth 20000 in
theorem aJq (l:List Int) (x:Sr) (hl:byt l) (hp:x.p≤1000):∃fs z,okZ fs∧fs.length≤21∧z.p≤x.p+400∧Vs.Fn Tryz.prog F.bO [sB l x] [.ptr (.b 0) 0 0] (.sl 9 (E cS fs)) [some (sB l z)]:=by
 have hcs:∀y:Stp,cS y=[.v (.int .i64 y.kind),.v (.int .i64 y.a),.v (.int .i64 y.b),.v (.int .i64 y.to),.v (.int .i64 y.f0),.v (.int .i64 y.f1),.v (.int .i64 y.s0),.v (.int .i64 y.s1),.v (.string y.text)]:=fun _=>rfl;clear hcs;have P2:=one l x hl 2 (by omega);have q2:=bC l x 2;obtain⟨b2,hb2⟩:∃b,(pkV l x 2==0)=b:=⟨_,rfl⟩;rw[hb2] at P2;generalize pkS l x 2=y1 at *
 cases b2
 ·have P6:=pick l y1 hl 6 (by omega);have q6:=bC l y1 6;have v6:=dF hl y1 (n:=6) (by omega);obtain⟨k0,hk0⟩:∃k:Nat,pkV l y1 6=k:=⟨(pkV l y1 6).toNat,by omega⟩;rw[hk0] at P6 v6;generalize pkS l y1 6=y3 at *
  obtain⟨o1,y4,⟨hy4,ho1,hz1⟩,hT⟩:=aFq hl k0 y3 [] (by omega) (fun s hs=>by cases hs);simp only[List.length_nil] at ho1;by_cases h0:o1.length=0
  ·have e0:decide ((o1.length:Int)>0)=false:=decide_eq_false (by omega);have P24:=one l y4 hl 24 (by omega);have q24:=bC l y4 24;obtain⟨b24,hb24⟩:∃b,(pkV l y4 24==0)=b:=⟨_,rfl⟩;rw[hb24] at P24;generalize pkS l y4 24=y8 at *
   cases b24
   ·refine⟨o1,y8,hz1,by(try simp only[List.length_set]);omega,by omega,?_⟩;exact df000 l x hl y1 y3 y4 y8 k0 o1 P2 P6 (by omega) (by omega) hT (by omega) e0 P24 0 (by omega) rfl
   ·have P2b:=pick l y8 hl 2 (by omega);have q2b:=bC l y8 2;have v2b:=dF hl y8 (n:=2) (by omega);obtain⟨e9,he9⟩:∃k:Nat,pkV l y8 2=k:=⟨(pkV l y8 2).toNat,by omega⟩;rw[he9] at P2b v2b;generalize pkS l y8 2=y9 at *
    have w20:IntKind.i64.wrap (20+(e9:Int))=((20+e9:Nat):Int):=by rw[aO (by omega) (by omega)];omega
    refine⟨qM (20+e9),y9,xW _,by rw[qL];omega,by omega,?_⟩;exact df001 l x hl y1 y3 y4 y8 k0 o1 P2 P6 (by omega) (by omega) hT (by omega) e0 P24 e9 (by omega) w20 y9 P2b
  ·have e0:decide ((o1.length:Int)>0)=true:=decide_eq_true (by omega);have P10:=one l y4 hl 10 (by omega);have q10:=bC l y4 10;obtain⟨b10,hb10⟩:∃b,(pkV l y4 10==0)=b:=⟨_,rfl⟩;rw[hb10] at P10;generalize pkS l y4 10=y5 at *
   cases b10
   ·have P24:=one l y5 hl 24 (by omega);have q24:=bC l y5 24;obtain⟨b24,hb24⟩:∃b,(pkV l y5 24==0)=b:=⟨_,rfl⟩;rw[hb24] at P24;generalize pkS l y5 24=y8 at *
    cases b24
    ·refine⟨o1,y8,hz1,by(try simp only[List.length_set]);omega,by omega,?_⟩;exact df010 l x hl y1 y3 y4 y8 k0 o1 P2 P6 (by omega) (by omega) hT (by omega) e0 y5 P10 P24 0 (by omega) rfl
    ·have P2b:=pick l y8 hl 2 (by omega);have q2b:=bC l y8 2;have v2b:=dF hl y8 (n:=2) (by omega);obtain⟨e9,he9⟩:∃k:Nat,pkV l y8 2=k:=⟨(pkV l y8 2).toNat,by omega⟩;rw[he9] at P2b v2b;generalize pkS l y8 2=y9 at *
     have w20:IntKind.i64.wrap (20+(e9:Int))=((20+e9:Nat):Int):=by rw[aO (by omega) (by omega)];omega
     refine⟨qM (20+e9),y9,xW _,by rw[qL];omega,by omega,?_⟩;exact df011 l x hl y1 y3 y4 y8 k0 o1 P2 P6 (by omega) (by omega) hT (by omega) e0 y5 P10 P24 e9 (by omega) w20 y9 P2b
   ·have PN:=pick l y5 hl (o1.length:Nat) (by omega);have qn:=bC l y5 (o1.length:Nat);have vn:=dF hl y5 (n:=(o1.length:Nat)) (by omega);obtain⟨i9,hi9⟩:∃k:Nat,pkV l y5 (o1.length:Nat)=k:=⟨(pkV l y5 (o1.length:Nat)).toNat,by omega⟩;rw[hi9] at PN vn;generalize pkS l y5 (o1.length:Nat)=y6 at *
    obtain⟨s9,y7,hy7,hs9,SP⟩:=aK7 l y6 hl (by omega) o1 i9 (by omega) (by omega) (hz1 _ (List.getElem_mem _));have P24:=one l y7 hl 24 (by omega);have q24:=bC l y7 24;obtain⟨b24,hb24⟩:∃b,(pkV l y7 24==0)=b:=⟨_,rfl⟩;rw[hb24] at P24;generalize pkS l y7 24=y8 at *
    cases b24
    ·refine⟨(o1.set i9 s9),y8,aGz hz1 hs9,by(try simp only[List.length_set]);omega,by omega,?_⟩;exact df020 l x hl y1 y3 y4 y8 k0 o1 P2 P6 (by omega) (by omega) hT (by omega) e0 y5 P10 y6 y7 i9 (by omega) s9 PN SP P24 0 (by omega) rfl
    ·have P2b:=pick l y8 hl 2 (by omega);have q2b:=bC l y8 2;have v2b:=dF hl y8 (n:=2) (by omega);obtain⟨e9,he9⟩:∃k:Nat,pkV l y8 2=k:=⟨(pkV l y8 2).toNat,by omega⟩;rw[he9] at P2b v2b;generalize pkS l y8 2=y9 at *
     have w20:IntKind.i64.wrap (20+(e9:Int))=((20+e9:Nat):Int):=by rw[aO (by omega) (by omega)];omega
     refine⟨qM (20+e9),y9,xW _,by rw[qL];omega,by omega,?_⟩;exact df021 l x hl y1 y3 y4 y8 k0 o1 P2 P6 (by omega) (by omega) hT (by omega) e0 y5 P10 y6 y7 i9 (by omega) s9 PN SP P24 e9 (by omega) w20 y9 P2b
 ·have PT:=pick l y1 hl 3 (by omega);have qt:=bC l y1 3;generalize pkV l y1 3=to at *
  generalize pkS l y1 3=y2 at *
  have P6:=pick l y2 hl 6 (by omega);have q6:=bC l y2 6;have v6:=dF hl y2 (n:=6) (by omega);obtain⟨k0,hk0⟩:∃k:Nat,pkV l y2 6=k:=⟨(pkV l y2 6).toNat,by omega⟩;rw[hk0] at P6 v6;generalize pkS l y2 6=y3 at *
  obtain⟨o1,y4,⟨hy4,ho1,hz1⟩,hT⟩:=aFq hl k0 y3 [aDC to] (by omega) (fun s hs=>by rw[List.mem_singleton.1 hs];exact Nat.zero_le _);simp only[List.length_cons,List.length_nil] at ho1;by_cases h0:o1.length=0
  ·have e0:decide ((o1.length:Int)>0)=false:=decide_eq_false (by omega);have P24:=one l y4 hl 24 (by omega);have q24:=bC l y4 24;obtain⟨b24,hb24⟩:∃b,(pkV l y4 24==0)=b:=⟨_,rfl⟩;rw[hb24] at P24;generalize pkS l y4 24=y8 at *
   cases b24
   ·refine⟨o1,y8,hz1,by(try simp only[List.length_set]);omega,by omega,?_⟩;exact df100 l x hl y1 y3 y4 y8 k0 o1 P2 y2 to PT P6 (by omega) (by omega) hT (by omega) e0 P24 0 (by omega) rfl
   ·have P2b:=pick l y8 hl 2 (by omega);have q2b:=bC l y8 2;have v2b:=dF hl y8 (n:=2) (by omega);obtain⟨e9,he9⟩:∃k:Nat,pkV l y8 2=k:=⟨(pkV l y8 2).toNat,by omega⟩;rw[he9] at P2b v2b;generalize pkS l y8 2=y9 at *
    have w20:IntKind.i64.wrap (20+(e9:Int))=((20+e9:Nat):Int):=by rw[aO (by omega) (by omega)];omega
    refine⟨qM (20+e9),y9,xW _,by rw[qL];omega,by omega,?_⟩;exact df101 l x hl y1 y3 y4 y8 k0 o1 P2 y2 to PT P6 (by omega) (by omega) hT (by omega) e0 P24 e9 (by omega) w20 y9 P2b
  ·have e0:decide ((o1.length:Int)>0)=true:=decide_eq_true (by omega);have P10:=one l y4 hl 10 (by omega);have q10:=bC l y4 10;obtain⟨b10,hb10⟩:∃b,(pkV l y4 10==0)=b:=⟨_,rfl⟩;rw[hb10] at P10;generalize pkS l y4 10=y5 at *
   cases b10
   ·have P24:=one l y5 hl 24 (by omega);have q24:=bC l y5 24;obtain⟨b24,hb24⟩:∃b,(pkV l y5 24==0)=b:=⟨_,rfl⟩;rw[hb24] at P24;generalize pkS l y5 24=y8 at *
    cases b24
    ·refine⟨o1,y8,hz1,by(try simp only[List.length_set]);omega,by omega,?_⟩;exact df110 l x hl y1 y3 y4 y8 k0 o1 P2 y2 to PT P6 (by omega) (by omega) hT (by omega) e0 y5 P10 P24 0 (by omega) rfl
    ·have P2b:=pick l y8 hl 2 (by omega);have q2b:=bC l y8 2;have v2b:=dF hl y8 (n:=2) (by omega);obtain⟨e9,he9⟩:∃k:Nat,pkV l y8 2=k:=⟨(pkV l y8 2).toNat,by omega⟩;rw[he9] at P2b v2b;generalize pkS l y8 2=y9 at *
     have w20:IntKind.i64.wrap (20+(e9:Int))=((20+e9:Nat):Int):=by rw[aO (by omega) (by omega)];omega
     refine⟨qM (20+e9),y9,xW _,by rw[qL];omega,by omega,?_⟩;exact df111 l x hl y1 y3 y4 y8 k0 o1 P2 y2 to PT P6 (by omega) (by omega) hT (by omega) e0 y5 P10 P24 e9 (by omega) w20 y9 P2b
   ·have PN:=pick l y5 hl (o1.length:Nat) (by omega);have qn:=bC l y5 (o1.length:Nat);have vn:=dF hl y5 (n:=(o1.length:Nat)) (by omega);obtain⟨i9,hi9⟩:∃k:Nat,pkV l y5 (o1.length:Nat)=k:=⟨(pkV l y5 (o1.length:Nat)).toNat,by omega⟩;rw[hi9] at PN vn;generalize pkS l y5 (o1.length:Nat)=y6 at *
    obtain⟨s9,y7,hy7,hs9,SP⟩:=aK7 l y6 hl (by omega) o1 i9 (by omega) (by omega) (hz1 _ (List.getElem_mem _));have P24:=one l y7 hl 24 (by omega);have q24:=bC l y7 24;obtain⟨b24,hb24⟩:∃b,(pkV l y7 24==0)=b:=⟨_,rfl⟩;rw[hb24] at P24;generalize pkS l y7 24=y8 at *
    cases b24
    ·refine⟨(o1.set i9 s9),y8,aGz hz1 hs9,by(try simp only[List.length_set]);omega,by omega,?_⟩;exact df120 l x hl y1 y3 y4 y8 k0 o1 P2 y2 to PT P6 (by omega) (by omega) hT (by omega) e0 y5 P10 y6 y7 i9 (by omega) s9 PN SP P24 0 (by omega) rfl
    ·have P2b:=pick l y8 hl 2 (by omega);have q2b:=bC l y8 2;have v2b:=dF hl y8 (n:=2) (by omega);obtain⟨e9,he9⟩:∃k:Nat,pkV l y8 2=k:=⟨(pkV l y8 2).toNat,by omega⟩;rw[he9] at P2b v2b;generalize pkS l y8 2=y9 at *
     have w20:IntKind.i64.wrap (20+(e9:Int))=((20+e9:Nat):Int):=by rw[aO (by omega) (by omega)];omega
     refine⟨qM (20+e9),y9,xW _,by rw[qL];omega,by omega,?_⟩;exact df121 l x hl y1 y3 y4 y8 k0 o1 P2 y2 to PT P6 (by omega) (by omega) hT (by omega) e0 y5 P10 y6 y7 i9 (by omega) s9 PN SP P24 e9 (by omega) w20 y9 P2b
end
section
variable [Vs.Envs]
attribute [local irreducible] Vs.Fn cZ aW dA dB l03 chB rk cd3 chI stp aY
def fwS (x:Spc):Stp:=⟨5,0,0,1,x.w0,x.w1,0,0,x.text⟩
def fwO (x:Spc) (n:Int):Stp:=⟨1,n,0,2,x.g0,x.g1,0,0,⟨#[]⟩⟩
def fwL (x:Spc):Stp:=⟨7,2,0,0,x.g0,x.g1,x.s0,x.s1,⟨#[]⟩⟩
def lY (x:Spc):List Stp:=if oD x.text then[fwO x 0,fwL x] else[fwS x,fwO x 1,fwL x]
theorem aJh (x:Spc):(lY x).length≤3:=by unfold lY;split<;>simp
attribute [local go_sem] List.replicate_succ List.replicate_zero List.flatten_cons List.flatten_nil List.cons_append List.nil_append List.set_cons_zero List.set_cons_succ List.length_cons List.length_nil List.length_set List.length_append in
set_option maxRecDepth 20000 in
theorem aGH (x:Spc):Fz F.qA [.ro (cP x)] (.sl 9 (E cS (lY x))):=by
 cases hn:oD x.text
 ·have hX:lY x=[fwS x,fwO x 1,fwL x]:=by simp[lY,hn]
  rw[hX];unfold oD at hn;refine fn0 Cd.s_l16Flow_k fun X=>?_
  repeat' first|simp -dsimp only[go_sem,cP,hn]|apply Br.mk<;>intro h<;>try simp -dsimp only[h]|refine aC ?_|fail
  all_goals(exact⟨_,_,rfl,rfl⟩)
 ·have hX:lY x=[fwO x 0,fwL x]:=by simp[lY,hn]
  rw[hX];unfold oD at hn;refine fn0 Cd.s_l16Flow_k fun X=>?_
  repeat' first|simp -dsimp only[go_sem,cP,hn]|apply Br.mk<;>intro h<;>try simp -dsimp only[h]|refine aC ?_|fail
  all_goals(exact⟨_,_,rfl,rfl⟩)
end
section
variable [Vs.Envs]
attribute [local irreducible] Vs.Fn wO dsC
theorem aD6 {c:List Int} (h:crd c):gF c=true∧c.length=5:=by
 obtain⟨a,n,m,ha,hn,hm,rfl⟩:=h;have h1:∀k:Nat,k<100→(ptN 2 (k:Int)).all (fun x=>inB x 0 4095)=true:=by decide +kernel
 have h2:∀k:Nat,k<31→(ptN 2 (-(k:Int))).all (fun x=>inB x 0 4095)=true:=by decide +kernel
 have e1:(ptN 2 n).all (fun x=>inB x 0 4095)=true:=by
  have:=h1 n.toNat (by omega)
  rwa [Int.toNat_of_nonneg hn.1] at this
 have e2:(ptN 2 m).all (fun x=>inB x 0 4095)=true:=by
  by_cases h0:0≤m
  ·have:=h1 m.toNat (by omega)
   rwa [Int.toNat_of_nonneg h0] at this
  ·have:=h2 (-m).toNat (by omega)
   rwa [Int.toNat_of_nonneg (by omega),Int.neg_neg] at this
 have e0:inB a 0 4095=true:=by rcases ha with rfl|rfl|rfl<;>decide +kernel
 have hl:(a::(ptN 2 n++ptN 2 m)).length=5:=by simp[aFC]
 refine⟨?_,hl⟩;unfold gF;rw[hl,List.all_cons,List.all_append,e0,e1,e2];rfl
theorem aJs {o:List (List Int)} (h:∀c,c∈o→crd c) (hl:o.length≤40):okD 5 o:=by
 refine⟨?_,fun c hc=>(aD6 (h c hc)).2⟩;simp only[aX,Bool.and_eq_true,List.all_eq_true,decide_eq_true_eq];refine⟨fun c hc=>⟨(aD6 (h c hc)).1,?_⟩,hl⟩;have h0:0<o.length:=List.length_pos_of_mem hc;have hm0:o.getD 0 []∈o:=by rw[show o.getD 0 []=o[0] by simp[List.getD,h0]];exact List.getElem_mem _
 rw[(aD6 (h c hc)).2,(aD6 (h _ hm0)).2]
end
section
variable [Vs.Envs]
attribute [local irreducible] Vs.Fn dV wO stC cZ aW dA dB l03 chB rk cd3 chI stp aY
def roT (o:Off):AV:=if o.totals.length=0 then .v (.slice none 0 0) else .sl 1 (E cTs o.totals)
def roV (o:Off):List AV:=[.sl 1 (E cD o.trays),roT o]
def gT (o:Off):AV:=if o.totals.length=0 then .v (.slice none 0 0) else .loc (.t 9 1) 0 o.totals.length
def gHT (o:Off):List (Vs.Name×Blk):=if o.totals.length=0 then[] else[(.t 9 1,.arr 1 (E cTs o.totals) false)]
theorem gT_e {o:Off} (h:o.totals.length=0):gT o=.v (.slice none 0 0):=if_pos h
theorem gT_l {o:Off} (h:o.totals.length≠0):gT o=.loc (.t 9 1) 0 o.totals.length:=if_neg h
theorem gH_e {o:Off} (h:o.totals.length=0):gHT o=[]:=if_pos h
theorem gH_l {o:Off} (h:o.totals.length≠0):gHT o=[(.t 9 1,.arr 1 (E cTs o.totals) false)]:=if_neg h
theorem aEp {o:Off} (h:o.totals.length=0):roT o=.v (.slice none 0 0):=if_pos h
theorem aC1 {o:Off} (h:o.totals.length≠0):roT o=.sl 1 (E cTs o.totals):=if_neg h
theorem roE {o:Off} (h:o.totals.length=0) {S:Nat→Prop}{w:World}{v:Value}{ρ:Vs.Name→Option Nat}{κ:Vs.Name→Nat}{hh:Vs.Name→Option Blk} (hv:RV S w ρ κ hh (.ro [.sl 1 (E cD o.trays),.v (.slice none 0 0)]) v):RV S w ρ κ hh (.ro (cO o)) v:=by
 unfold cO;rw[List.eq_nil_of_length_eq_zero h];exact aLw hv
theorem aHz (o:Off) (ho:yV o) (h:o.totals.length=0):Fz F.nN [.ro [.sl 1 (E cD o.trays),.v (.slice none 0 0)]] (.v (.int .i64 (wO o.trays))):=by
 refine yI (args':=[.ro (cO o)]) rfl (fun S w j v hj ρ κ hh hv=>?_) (aEM o ho)
 match j,hj with
 |0,_=>exact roE h hv
theorem aIb (x:Stp) (o:Off):(stO x o).trays.length=o.trays.length:=by unfold stO;split<;>simp
theorem aGi {x:Stp}{o:Off} (h7:x.kind≠7):(stO x o).totals=o.totals∧(stO x o).trays=o.trays.set x.to.toNat (dkL x (tr o.trays x.a) (tr o.trays x.b)):=by rw[aK6 h7];exact⟨rfl,rfl⟩
theorem aEf {x:Stp}{o:Off} (h7:x.kind=7):(stO x o).totals=o.totals++[oK x.f0 x.f1 x.s0 x.s1 (tr o.trays x.a)]∧(stO x o).trays=o.trays:=by rw[aIa h7];exact⟨rfl,rfl⟩
attribute [local go_sem] Int.reduceBEq Int.reduceBNe cC cO cFd aG List.replicate_succ List.replicate_zero List.flatten_cons List.flatten_nil List.cons_append List.nil_append List.set_cons_zero List.set_cons_succ List.length_cons List.length_nil List.length_set List.mem_singleton List.mem_cons List.not_mem_nil or_false false_or Vs.Name.t.injEq List.getD_cons_zero List.getD_cons_succ Vs.Name.b.injEq List.getElem?_cons_zero List.getElem?_cons_succ in
theorem aLP (o:Off) (w:Nat) (ho:okO w o) (he:o.totals.length=0) (fl:List Stp) (hz:∀x,x∈fl→x.text.size≤1048576) (hl:fl.length≤1048576):Fz F.wE [.ro [.sl 1 (E cD o.trays),.v (.slice none 0 0)],.sl 9 (E cS fl)] (.tup [.agg (roV (run o fl).1),.v (.int .i64 ((run o fl).2:Nat))]):=by
 have OW:Vs.Fn Tryz.prog F.qP [] [.ro [.sl 1 (E cD o.trays),.v (.slice none 0 0)]] (.agg [.loc (.b 0) 0 o.trays.length,.v (.slice none 0 0)]) [some (.arr 1 (E cD o.trays) false)]:=by
  refine yI (args':=[.ro (cO o)]) rfl (fun S w j v hj ρ κ hh hv=>?_) (aKw o (jP ho) (by rw[ho.2.1];omega) he)
  match j,hj with
  |0,_=>exact roE he hv
 have hI0:=aC0 o fl;generalize hR:run o fl=R;refine fn0 Cd.s_l15Run_k fun X=>?_
 repeat' first|simp -dsimp only[go_sem,cS]|apply Br.mk<;>intro h<;>try simp -dsimp only[h]|refine aA.own (by first|exact OW) rfl ?_|refine aC ?_|fail
 refine aN.atR dM (X:={p:Nat×Off // p.1≤fl.length∧okO w p.2∧aCL o fl p.1 p.2}) (fun p=>[(7,.v (.int .i64 (p.1.1:Nat)))]) (fun p=>(.t 6 0,.var [.loc (.t 9 0) 0 p.1.2.trays.length,gT p.1.2] false)::(.t 9 0,.arr 1 (E cD p.1.2.trays) false)::gHT p.1.2) (fun p=>fl.length-p.1.1) ⟨(0,o),by simp,ho,hI0⟩ ?_ ?_
 ·simp[Vs.LeL,Vs.look,Vs.aB,Vs.aP,Vs.aK,Vs.hset,Vs.aL,gT_e he,gH_e he]
 ·rintro⟨⟨i,o'⟩,hi,ho',hrun⟩;dsimp only at hi ho' hrun⊢;have hso:=jP ho';have hd6:=ho'.2.1;have ht20:=ho'.2.2.2.1;have hk1:(E cD o'.trays).take o'.trays.length=E cD o'.trays:=List.take_of_length_le (by rw[aG];exact Nat.le_refl _);have hk2:(E cTs o'.totals).take o'.totals.length=E cTs o'.totals:=List.take_of_length_le (by rw[aG];exact Nat.le_refl _);by_cases he':o'.totals.length=0
  ·rw[gT_e he',gH_e he'];have WD:=aHz o' hso he'
   try simp -dsimp only[go_sem,cS]
   refine Br.mk (fun hc=>?_) fun hc=>?_
   ·have hlt:i<fl.length:=Dq;have hw:=aH hlt (by omega);have gx:(E cS fl).getD i []=cS fl[i]:=aT hlt;have hzx:=hz _ (List.getElem_mem hlt);have LS:=aDQ fl[i] (wO o'.trays:Int) hzx;cases hv:dV fl[i] (wO o'.trays)
    ·rw[hv] at LS;have hstop:=tL hlt hrun (by unfold dsC;rw[hv];simp);rw[hR] at hstop;subst hstop
     repeat' first|simp -dsimp only[go_sem,gx,hk1,hk2,roV,aEp he',cS]|apply Br.mk<;>intro h<;>try simp -dsimp only[h]|refine aA.c (by first|exact WD|exact LS) ?_|refine aC ?_|fail
     all_goals first|omega|exact⟨_,_,rfl,rfl⟩|exact⟨⟨_,_,rfl,rfl⟩,fun h=>h rfl⟩
    ·rw[hv] at LS;by_cases h0:stC fl[i] o'=0
     ·have hd:dsC fl[i] o'=0:=by unfold dsC;rw[hv];exact h0
      have hnext:=aAO hlt hrun hd;have hok:=aGS ho' hd;have htl:=aIb fl[i] o';by_cases h7:fl[i].kind=7
      ·have DO:=aFJ fl[i] hzx o' w ho' hv he' h7 h0;obtain⟨q1,q2⟩:=aEf (o:=o') h7;have hm:(stO fl[i] o').totals.length=o'.totals.length+1:=by rw[q1,List.length_append];rfl
       have hne:(stO fl[i] o').totals.length≠0:=by omega
       have hgT:=gT_l hne;have hgH:=gH_l hne;generalize stO fl[i] o'=o2 at *
       repeat' first|simp -dsimp only[go_sem,gx,hw,cS]|apply Br.mk<;>intro h<;>try simp -dsimp only[h]|refine aA.borG (B:=[.t 6 0,.t 9 0]) (by first|exact DO) rfl ?_|refine aA.c (by first|exact WD|exact LS) ?_|refine aC ?_|fail
       all_goals first|omega|(refine⟨⟨(i+1,o2),by simp only;omega,hok,hnext⟩,.inr ⟨.t 26 2,.t 9 1,by decide,rfl,?_⟩,by simp only;omega⟩;simp[Vs.uX,Vs.nmF,Vs.rn,Vs.rnL,Vs.rnB,Vs.LeL,Vs.look,Vs.aB,Vs.aP,Vs.aK,Vs.hset,Vs.aL,hgT,hgH,q1,q2];done)
      ·have DO:=aHD fl[i] hzx o' w ho' hv he' h7 h0;obtain⟨q1,q2⟩:=aGi (o:=o') h7;have he2:(stO fl[i] o').totals.length=0:=by rw[q1];exact he'
       have hgT:=gT_e he2;have hgH:=gH_e he2;generalize stO fl[i] o'=o2 at *
       repeat' first|simp -dsimp only[go_sem,gx,hw,cS]|apply Br.mk<;>intro h<;>try simp -dsimp only[h]|refine aA.borG (B:=[.t 6 0,.t 9 0]) (by first|exact DO) rfl ?_|refine aA.c (by first|exact WD|exact LS) ?_|refine aC ?_|fail
       all_goals first|omega|(refine⟨⟨(i+1,o2),by simp only;omega,hok,hnext⟩,.inl ?_,by simp only;omega⟩;simp[Vs.LeL,Vs.look,Vs.aB,Vs.aP,Vs.aK,Vs.hset,Vs.aL,hgT,hgH,q1,q2];done)
     ·have DO:=aHC fl[i] hzx o' w ho' hv he' h0;have e0:(stC fl[i] o' != 0)=true:=by simp[h0]
      have hstop:=tL hlt hrun (by unfold dsC;rw[hv];exact h0);rw[hR] at hstop;subst hstop;generalize stC fl[i] o'=c at *
      repeat' first|simp -dsimp only[go_sem,gx,e0,hk1,hk2,roV,aEp he',cS]|apply Br.mk<;>intro h<;>try simp -dsimp only[h]|refine aA.borG (B:=[.t 6 0,.t 9 0]) (by first|exact DO) rfl ?_|refine aA.c (by first|exact WD|exact LS) ?_|refine aC ?_|fail
      all_goals first|omega|exact⟨_,_,rfl,rfl⟩|exact⟨⟨_,_,rfl,rfl⟩,fun h=>h rfl⟩
   ·have hge:i=fl.length:=by
     have:¬i<fl.length:=Dq;omega
    subst hge;have hstop:=aBY hrun;rw[hR] at hstop;subst hstop
    repeat' first|simp -dsimp only[go_sem,hk1,hk2,roV,aEp he',cS]|apply Br.mk<;>intro h<;>try simp -dsimp only[h]|refine And.intro ?_ (fun h=>absurd rfl h)|refine aC ?_|fail
    all_goals first|omega|exact⟨_,_,rfl,rfl⟩|exact⟨⟨_,_,rfl,rfl⟩,fun h=>h rfl⟩
  ·rw[gT_l he',gH_l he'];have WD:=aEM o' hso
   try simp -dsimp only[go_sem,cS]
   refine Br.mk (fun hc=>?_) fun hc=>?_
   ·have hlt:i<fl.length:=Dq;have hw:=aH hlt (by omega);have gx:(E cS fl).getD i []=cS fl[i]:=aT hlt;have hzx:=hz _ (List.getElem_mem hlt);have LS:=aDQ fl[i] (wO o'.trays:Int) hzx;cases hv:dV fl[i] (wO o'.trays)
    ·rw[hv] at LS;have hstop:=tL hlt hrun (by unfold dsC;rw[hv];simp);rw[hR] at hstop;subst hstop
     repeat' first|simp -dsimp only[go_sem,gx,hk1,hk2,roV,aC1 he',cS]|apply Br.mk<;>intro h<;>try simp -dsimp only[h]|refine aA.c (by first|exact WD|exact LS) ?_|refine aC ?_|fail
     all_goals first|omega|exact⟨_,_,rfl,rfl⟩|exact⟨⟨_,_,rfl,rfl⟩,fun h=>h rfl⟩
    ·rw[hv] at LS;by_cases h0:stC fl[i] o'=0
     ·have hd:dsC fl[i] o'=0:=by unfold dsC;rw[hv];exact h0
      have hnext:=aAO hlt hrun hd;have hok:=aGS ho' hd;have htl:=aIb fl[i] o';by_cases h7:fl[i].kind=7
      ·have DO:=aFI fl[i] hzx o' w ho' hv h7 h0;obtain⟨q1,q2⟩:=aEf (o:=o') h7;have hm:(stO fl[i] o').totals.length=o'.totals.length+1:=by rw[q1,List.length_append];rfl
       have hne:(stO fl[i] o').totals.length≠0:=by omega
       have hgT:=gT_l hne;have hgH:=gH_l hne;generalize stO fl[i] o'=o2 at *
       repeat' first|simp -dsimp only[go_sem,gx,hw,cS]|apply Br.mk<;>intro h<;>try simp -dsimp only[h]|refine aA.borG (B:=[.t 6 0,.t 9 0,.t 9 1]) (by first|exact DO) rfl ?_|refine aA.c (by first|exact WD|exact LS) ?_|refine aC ?_|fail
       all_goals first|omega|(refine⟨⟨(i+1,o2),by simp only;omega,hok,hnext⟩,.inr ⟨.t 26 3,.t 9 1,by decide,rfl,?_⟩,by simp only;omega⟩;simp[Vs.uX,Vs.nmF,Vs.rn,Vs.rnL,Vs.rnB,Vs.LeL,Vs.look,Vs.aB,Vs.aP,Vs.aK,Vs.hset,Vs.aL,hgT,hgH,q1,q2];done)
      ·have DO:=aHB fl[i] hzx o' w ho' hv h7 h0;obtain⟨q1,q2⟩:=aGi (o:=o') h7;have he2:(stO fl[i] o').totals.length≠0:=by rw[q1];exact he'
       have hgT:=gT_l he2;have hgH:=gH_l he2;generalize stO fl[i] o'=o2 at *
       repeat' first|simp -dsimp only[go_sem,gx,hw,cS]|apply Br.mk<;>intro h<;>try simp -dsimp only[h]|refine aA.borG (B:=[.t 6 0,.t 9 0,.t 9 1]) (by first|exact DO) rfl ?_|refine aA.c (by first|exact WD|exact LS) ?_|refine aC ?_|fail
       all_goals first|omega|(refine⟨⟨(i+1,o2),by simp only;omega,hok,hnext⟩,.inl ?_,by simp only;omega⟩;simp[Vs.LeL,Vs.look,Vs.aB,Vs.aP,Vs.aK,Vs.hset,Vs.aL,hgT,hgH,q1,q2];done)
     ·have DO:=aHA fl[i] hzx o' w ho' hv h0;have e0:(stC fl[i] o' != 0)=true:=by simp[h0]
      have hstop:=tL hlt hrun (by unfold dsC;rw[hv];exact h0);rw[hR] at hstop;subst hstop;generalize stC fl[i] o'=c at *
      repeat' first|simp -dsimp only[go_sem,gx,e0,hk1,hk2,roV,aC1 he',cS]|apply Br.mk<;>intro h<;>try simp -dsimp only[h]|refine aA.borG (B:=[.t 6 0,.t 9 0,.t 9 1]) (by first|exact DO) rfl ?_|refine aA.c (by first|exact WD|exact LS) ?_|refine aC ?_|fail
      all_goals first|omega|exact⟨_,_,rfl,rfl⟩|exact⟨⟨_,_,rfl,rfl⟩,fun h=>h rfl⟩
   ·have hge:i=fl.length:=by
     have:¬i<fl.length:=Dq;omega
    subst hge;have hstop:=aBY hrun;rw[hR] at hstop;subst hstop
    repeat' first|simp -dsimp only[go_sem,hk1,hk2,roV,aC1 he',cS]|apply Br.mk<;>intro h<;>try simp -dsimp only[h]|refine And.intro ?_ (fun h=>absurd rfl h)|refine aC ?_|fail
    all_goals first|omega|exact⟨_,_,rfl,rfl⟩|exact⟨⟨_,_,rfl,rfl⟩,fun h=>h rfl⟩
end
section
variable [Vs.Envs]
attribute [local irreducible] Vs.Fn dV wO stC run cZ aW dA dB l03 chB rk cd3 chI stp aY
attribute [local go_sem] cO
def rsB (fl:List Stp) (l:List (List Int)):Bool:=decide ((run (O0 l) fl).2=fl.length)&&decide ((run (O0 l) fl).1.totals.length=1)
def rsL (fl:List Stp) (l:List (List Int)):List Tot:=(run (O0 l) fl).1.totals.getD 0 []
def rsV (fl:List Stp) (l:List (List Int)):AV:=if rsB fl l then .sl 2 (E cT (rsL fl l)) else .v (.slice none 0 0)
attribute [local go_sem] Int.reduceBEq Int.reduceBNe cFd aG List.replicate_succ List.replicate_zero List.flatten_cons List.flatten_nil List.cons_append List.nil_append List.set_cons_zero List.set_cons_succ List.length_cons List.length_nil List.length_set List.mem_singleton List.mem_cons List.not_mem_nil or_false false_or Vs.Name.t.injEq List.getD_cons_zero List.getD_cons_succ Vs.Name.b.injEq List.getElem?_cons_zero List.getElem?_cons_succ in
theorem yS (fl:List Stp) (hz:∀x,x∈fl→x.text.size≤1048576) (hl:fl.length≤1048576) (l:List (List Int)) (hk:bE l) (hd:aX l=true):Fz F.oH [.sl 9 (E cS fl),.sl 1 (E cC l)] (.tup [rsV fl l,.v (.bool (rsB fl l))]):=by
 have NW:=aCk l hk hd;have SZ:=aFv fl
 have RF:Fz F.qH [.agg [.sl 1 (aBg l),.sl 1 []],.sl 9 (E cS fl)] (.tup [.agg (cO (run (O0 l) fl).1),.v (.int .i64 ((run (O0 l) fl).2:Nat))]):=by
  refine yI (args':=[.agg (cO (O0 l)),.sl 9 (E cS fl)]) rfl (fun S w j v hj ρ κ hh hv=>?_) (aJ5 (O0 l) _ (aFm hd) fl hz hl)
  match j,hj with
  |0,_=>exact aKo hv
  |1,_=>exact hv
 generalize hrn:aBg l=RN at *
 have hok:=aDF fl (O0 l) (aFm hd);unfold rsV;unfold rsB rsL;generalize run (O0 l) fl=R at *
 obtain⟨o',n⟩:=R;obtain⟨ho',hn⟩:=hok;dsimp only at *
 have ht20:=ho'.2.2.2.1;by_cases hlt:n<fl.length
 ·have e1:decide ((n:Int)<(fl.length:Int))=true:=decide_eq_true (by omega);have e2:(decide (n=fl.length)&&decide (o'.totals.length=1))=false:=by rw[decide_eq_false (by omega)];rfl
  rw[e2];refine fn0 Cd.i_resultOf_k fun X=>?_
  repeat' first|simp -dsimp only[go_sem,e1,cC,cS]|apply Br.mk<;>intro h<;>try simp -dsimp only[h]|refine aA.c (by first|exact NW|exact RF|exact SZ) ?_|refine aC ?_|fail
  all_goals first|omega|exact⟨_,_,rfl,rfl⟩|(refine aS ?_;simp;done)
 have e1:decide ((n:Int)<(fl.length:Int))=false:=decide_eq_false (by omega);by_cases h1:o'.totals.length=1
 ·have e2:(decide (n=fl.length)&&decide (o'.totals.length=1))=true:=by rw[decide_eq_true (by omega),decide_eq_true h1];rfl
  rw[e2,if_pos rfl];have e3:((o'.totals.length:Int) != 1)=false:=by simp[h1]
  have h0:0<o'.totals.length:=by omega
  have g0:(E cTs o'.totals).getD 0 []=[.sl 2 (E cT (o'.totals.getD 0 []))]:=by rw[aCB h0];simp[List.getD,h0]
  refine fn0 Cd.i_resultOf_k fun X=>?_
  repeat' first|simp -dsimp only[go_sem,e1,e3,g0,cC,cS]|apply Br.mk<;>intro h<;>try simp -dsimp only[h]|refine aA.c (by first|exact NW|exact RF|exact SZ) ?_|refine aC ?_|fail
  all_goals first|omega|exact⟨_,_,rfl,rfl⟩|(refine aS ?_;simp;done)
 ·have e2:(decide (n=fl.length)&&decide (o'.totals.length=1))=false:=by rw[decide_eq_false h1,Bool.and_false]
  rw[e2];have e3:((o'.totals.length:Int) != 1)=true:=by simp;omega
  have e4:(((0:Nat):Int) != 1)=true:=by decide
  refine fn0 Cd.i_resultOf_k fun X=>?_
  repeat' first|simp -dsimp only[go_sem,e1,e3,e4,cC,cS]|apply Br.mk<;>intro h<;>try simp -dsimp only[h]|refine aA.c (by first|exact NW|exact RF|exact SZ) ?_|refine aC ?_|fail
  all_goals first|omega|exact⟨_,_,rfl,rfl⟩|(refine aS ?_;simp;done)
attribute [local go_sem] Int.reduceBEq Int.reduceBNe cFd aG List.replicate_succ List.replicate_zero List.flatten_cons List.flatten_nil List.cons_append List.nil_append List.set_cons_zero List.set_cons_succ List.length_cons List.length_nil List.length_set List.mem_singleton List.mem_cons List.not_mem_nil or_false false_or Vs.Name.t.injEq List.getD_cons_zero List.getD_cons_succ Vs.Name.b.injEq List.getElem?_cons_zero List.getElem?_cons_succ in
theorem aAT (fl:List Stp) (hz:∀x,x∈fl→x.text.size≤1048576) (hl:fl.length≤1048576) (l:List (List Int)) (hk:bE l) (hd:aX l=true):Fz F.kJ [.sl 9 (E cS fl),.sl 1 (E cC l)] (.tup [rsV fl l,.v (.bool (rsB fl l))]):=by
 have NW:=aLQ l hk;have RF:=aLP (O0 l) _ (aFm hd) rfl fl hz hl;rw[show(O0 l).trays=T0 l from rfl] at RF;generalize hrn:T0 l=TL at *
 have hok:=aDF fl (O0 l) (aFm hd);unfold rsV;unfold rsB rsL;generalize run (O0 l) fl=R at *
 obtain⟨o',n⟩:=R;obtain⟨ho',hn⟩:=hok;dsimp only at *
 have ht20:=ho'.2.2.2.1;by_cases hlt:n<fl.length
 ·have e1:decide ((n:Int)<(fl.length:Int))=true:=decide_eq_true (by omega);have e2:(decide (n=fl.length)&&decide (o'.totals.length=1))=false:=by rw[decide_eq_false (by omega)];rfl
  rw[e2];by_cases hT:o'.totals.length=0
  ·have hroT:=aEp hT;rw[show roV o'=[.sl 1 (E cD o'.trays),.v (.slice none 0 0)] by unfold roV;rw[hroT]] at RF;refine fn0 Cd.s_l17Result_k fun X=>?_
   repeat' first|simp -dsimp only[go_sem,e1,roV,cC,cS]|apply Br.mk<;>intro h<;>try simp -dsimp only[h]|refine aA.c (by first|exact NW|exact RF) ?_|refine aC ?_|fail
   all_goals first|omega|exact⟨_,_,rfl,rfl⟩|(refine aS ?_;simp;done)
  ·have hroT:=aC1 hT;rw[show roV o'=[.sl 1 (E cD o'.trays),.sl 1 (E cTs o'.totals)] by unfold roV;rw[hroT]] at RF;refine fn0 Cd.s_l17Result_k fun X=>?_
   repeat' first|simp -dsimp only[go_sem,e1,roV,cC,cS]|apply Br.mk<;>intro h<;>try simp -dsimp only[h]|refine aA.c (by first|exact NW|exact RF) ?_|refine aC ?_|fail
   all_goals first|omega|exact⟨_,_,rfl,rfl⟩|(refine aS ?_;simp;done)
 have e1:decide ((n:Int)<(fl.length:Int))=false:=decide_eq_false (by omega);by_cases h1:o'.totals.length=1
 ·have e2:(decide (n=fl.length)&&decide (o'.totals.length=1))=true:=by rw[decide_eq_true (by omega),decide_eq_true h1];rfl
  rw[e2,if_pos rfl];have e3:((o'.totals.length:Int) != 1)=false:=by simp[h1]
  have h0:0<o'.totals.length:=by omega
  have g0:(E cTs o'.totals).getD 0 []=[.sl 2 (E cT (o'.totals.getD 0 []))]:=by rw[aCB h0];simp[List.getD,h0]
  have hroT:=aC1 (by omega:o'.totals.length≠0);rw[show roV o'=[.sl 1 (E cD o'.trays),.sl 1 (E cTs o'.totals)] by unfold roV;rw[hroT]] at RF;refine fn0 Cd.s_l17Result_k fun X=>?_
  repeat' first|simp -dsimp only[go_sem,e1,e3,g0,cC,cS]|apply Br.mk<;>intro h<;>try simp -dsimp only[h]|refine aA.c (by first|exact NW|exact RF) ?_|refine aC ?_|fail
  all_goals first|omega|exact⟨_,_,rfl,rfl⟩|(refine aS ?_;simp;done)
 ·have e2:(decide (n=fl.length)&&decide (o'.totals.length=1))=false:=by rw[decide_eq_false h1,Bool.and_false]
  rw[e2];have e3:((o'.totals.length:Int) != 1)=true:=by simp;omega
  have e4:(((0:Nat):Int) != 1)=true:=by decide
  by_cases hT:o'.totals.length=0
  ·have hroT:=aEp hT;rw[show roV o'=[.sl 1 (E cD o'.trays),.v (.slice none 0 0)] by unfold roV;rw[hroT]] at RF;refine fn0 Cd.s_l17Result_k fun X=>?_
   repeat' first|simp -dsimp only[go_sem,e1,e3,e4,cC,cS]|apply Br.mk<;>intro h<;>try simp -dsimp only[h]|refine aA.c (by first|exact NW|exact RF) ?_|refine aC ?_|fail
   all_goals first|omega|exact⟨_,_,rfl,rfl⟩|(refine aS ?_;simp;done)
  ·have hroT:=aC1 hT;rw[show roV o'=[.sl 1 (E cD o'.trays),.sl 1 (E cTs o'.totals)] by unfold roV;rw[hroT]] at RF;refine fn0 Cd.s_l17Result_k fun X=>?_
   repeat' first|simp -dsimp only[go_sem,e1,e3,e4,cC,cS]|apply Br.mk<;>intro h<;>try simp -dsimp only[h]|refine aA.c (by first|exact NW|exact RF) ?_|refine aC ?_|fail
   all_goals first|omega|exact⟨_,_,rfl,rfl⟩|(refine aS ?_;simp;done)
end
end Go.Proofs.YtonkjfiffcfaoaaGreat
