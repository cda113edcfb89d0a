/- A card of a deck that is spoilt. -/
import Derived.Test.YtfoddghhlagenaaGreatDoorTwBb
import Derived.Test.YtfoddghhlagenaaGreatDoorVuY
import Derived.Test.YtfoddghhlagenaaGreatDoorTwPc
import Derived.Test.YtfoddghhlagenaaGreatDoorTwTc
set_option linter.all false
set_option maxHeartbeats 8000000
namespace Go.Proofs.YtfoddghhlagenaaGreatDoor
open Go.Vs
section
variable [Vs.Envs]
attribute [local irreducible] Vs.Fn nxV nxS pkV pkS ptN dtF kQ hoF hoR
open Go.Vs.Q in
def CdV.iV:aD:=s [mn 6] [0,1,2]<|.seq (.naming 7 (.region [o 9 (.bslice 1 0 [.v (.slice none 0 0)] []),m 7 9] [0,1,2,7] []))<|.seq (s [m 10 0,m 11 2,ad 12 11 1,o 13 (.call (.func F.aF) [10,12] [0]),m 8 13] [0,1,7,8]<|.block 0 (.loop (.seq (s [m 14 8,o 15 (.bin .gtr 14 (k 0))] [0,1,7,8,15]<|.cond 15
 .skip (.exit 0))<|.seq (.block 1 (.naming 7 (.region [m 18 7,m 19 0,m 20 1,o 21 (.call (.func F.dC) [19,20] [0]),o 22 (.bslice 1 1 [.v (.slice none 0 0)] [(0,21)]),o 23 (.append 1 24 18 22),m 7 23] [0,1,7,8] [])))<|.region [m 16 8,o 17 (.bin .sub 16 (k 1)),m 8 17] [0,1,7,8] [])))<|s [m 24
 7,m 6 24] [6]<|.ret
theorem CdV.l02DrawDeck_k:CK 100 Tryz.f100 CdV.iV 25 [.tmp 6]:=ck Tryz.func100
attribute [go_sem] CdV.iV
theorem wU (l:List Int) (x:Sr) (n:Vs.Name):(sB l x).has n=false:=by simp[sB,Blk.has,iL,AV.has]
theorem aBy (l:List Int):∀r,r∈E cI l->iD r=true:=λr hr=>by
 obtain⟨y,_,rfl⟩:=List.mem_map.1 hr
 rfl
theorem xK (l:List Int) (x:Sr) (hl:byt l) (n:Nat) (h0:0<n) (hn:n<=20) (hp:x.p<=3000):Vs.Fn Tryz.prog F.dC [sB l x] [.ptr (.b 0) 0 0,.v (.int .i64 n)] (.agg (cC (hoF l n x []).1)) [some (sB l (hoF l n x []).2)]:=by
 have h:=zZ l x hl n h0 hn hp
 have e:n=(E cI (hoF l n x []).1).length:=by rw[aJ,(nI l n x []).1];simp
 exact Vs.Fn.shutB (k:=1) (rows:=E cI (hoF l n x []).1) (by rw[←e];exact h) (aBy _) (wU l _)
def ddF (l:List Int) (n:Nat):Nat->Sr->List (List Int)->List (List Int)×Sr
 |0,x,o=>(o,x)
 |k+1,x,o=>ddF l n k (hoF l n x []).2 (o++[(hoF l n x []).1])
theorem xV (l:List Int) (n:Nat):∀(k:Nat) (x:Sr) (o:List (List Int)),(∀c,c∈o->c.length=n)->(ddF l n k x o).1.length=o.length+k∧(ddF l n k x o).2.p<=x.p+8*n*k∧∀c,c∈(ddF l n k x o).1->c.length=n
 |0,x,o,h=>⟨rfl,by simp[ddF],h⟩
 | k+1,x,o,h=>by
  have h1:=(nI l n x [])
  simp only[List.length_nil,Nat.zero_add] at h1
  obtain ⟨g1,g2,g3⟩:=xV l n k (hoF l n x []).2 (o++[(hoF l n x []).1]) (λc hc=>by
    rcases List.mem_append.1 hc with hc|hc
    . exact h c hc
    . rw[List.mem_singleton.1 hc];exact h1.1)
  rw[ddF]
  refine⟨by rw[g1,List.length_append];simp only[List.length_singleton];omega,?_,g3⟩
  rw[Nat.mul_succ];omega
attribute [local go_sem] Int.reduceBEq Int.reduceBNe aJ List.replicate_succ List.replicate_zero List.flatten_cons List.flatten_nil List.cons_append List.nil_append List.set_cons_zero List.set_cons_succ List.length_cons List.length_nil List.length_set List.mem_singleton List.mem_cons List.not_mem_nil or_false false_or Vs.Name.t.injEq List.getD_cons_zero List.getD_cons_succ bW bX eF List.append_nil List.flatMap_cons List.flatMap_nil in
theorem iV (l:List Int) (x:Sr) (hl:byt l) (n:Nat) (h0:0<n) (hn:n<=20) (m:Nat) (hm:m<=7) (hp:x.p<=1600):Vs.Fn Tryz.prog F.gZ [sB l x] [.ptr (.b 0) 0 0,.v (.int .i64 n),.v (.int .i64 m)] (.loc (.b 1) 0 (ddF l n (pkV l x (m+1:Nat)).toNat (pkS l x (m+1:Nat)) []).1.length) [some (sB l (ddF l n (pkV l x (m+1:Nat)).toNat (pkS l x (m+1:Nat)) []).2),some (.arr 1 (E cC (ddF l n (pkV l x (m+1:Nat)).toNat (pkS l x (m+1:Nat)) []).1) false)]:=by
 have v:=bC hl x (n:=(m+1:Nat)) (by omega)
 have hw0:IntKind.i64.wrap ((m:Int)+1)=((m+1:Nat):Int):=by rw[aG (by omega) (by omega)];omega
 have P0:=pick l x hl (m+1:Nat) (by omega)
 have p0:=aR l x (m+1:Nat)
 obtain⟨k0,hk0⟩:∃k:Nat,pkV l x (m+1:Nat)=k:=⟨(pkV l x (m+1:Nat)).toNat,by omega⟩
 rw[hk0] at P0 v
 rw[hk0,Int.toNat_natCast]
 generalize pkS l x (m+1:Nat)=x0 at *
 have hm2:8*n*k0<=160*8:=by
  have:8*n*k0<=(8*20)*8:=Nat.mul_le_mul (by omega) (by omega)
  omega
 obtain⟨g1,g2,g3⟩:=xV l n k0 x0 [] (λc hc=>by cases hc)
 simp only[List.length_nil,Nat.zero_add] at g1
 have hT:ddF l n k0 x0 []=ddF l n k0 x0 []:=rfl
 generalize hR:ddF l n k0 x0 []=R at *
 have hR2:ddF l n k0 x0 []=R:=hR
 refine fn1 CdV.l02DrawDeck_k [.b 0,.t 7 0] [sB l R.2,.arr 1 (E cC R.1) false] λX=>?_
 unfold CdV.iV
 repeat' first|simp -dsimp only[go_sem,cC,sB,hw0]|apply Br.mk<;>intro h<;>try simp -dsimp only[h]|refine aB.bor (by first|exact P0) rfl ?_|refine aC ?_|refine aC9 ?_|fail
 refine bA.at dM (X:={zz:Nat×Sr×List (List Int) // (zz.2.1.p+8*n*zz.1<=2900)∧(zz.1+zz.2.2.length=k0)∧ddF l n zz.1 zz.2.1 zz.2.2=R}) (λzz=>[(7,.loc (.t 7 0) 0 zz.1.2.2.length),(8,.v (.int .i64 (zz.1.1:Nat)))]) (λzz=>[(.b 0,sB l zz.1.2.1),(.t 7 0,.arr 1 (E cC zz.1.2.2) false)]) (λzz=>zz.1.1) ⟨(k0,x0,[]),by dsimp only;omega,by dsimp only;simp only[List.length_nil];omega,hR⟩ ?_ ?_
 .simp[Vs.LeL,Vs.look,Vs.aA,Vs.bL,Vs.aO,Vs.hset,Vs.aP,Vs.E,sB]
 .rintro⟨⟨k,y,o⟩,hk1,hk2,hr⟩
  dsimp only at hk1 hk2 hr
  simp -dsimp only[go_sem,cC,sB]
  refine Br.mk (λhc=>?_) λhc=>?_
  .obtain⟨k,rfl⟩:∃j,k=j+1:=⟨k-1,by simp at hc;omega⟩
   have w:=aCA (k:=k) (by omega)
   rw[Nat.mul_succ] at hk1
   have hf:=xK l y hl n h0 hn (by omega)
   have hq:=(nI l n y []).2
   rw[ddF] at hr
   generalize hoF l n y []=H at *
   have hap:E cC o++[[.sl 1 (E cI H.1)]]=E cC (o++[H.1]):=by rw[bR];rfl
   repeat' first|simp -dsimp only[go_sem,w,hap,cC,sB]|apply Br.mk<;>intro h<;>try simp -dsimp only[h]|refine aB.bor (by first|exact hf) rfl ?_|refine aC ?_|refine aC9 ?_|fail
   all_goals first|omega|(refine⟨⟨(k,H.2,o++[H.1]),by dsimp only;omega,by dsimp only;rw[List.length_append];simp only[List.length_cons,List.length_nil];omega,hr⟩,?_,by simp only;omega⟩;simp[Vs.LeL,Vs.look,Vs.aA,Vs.bL,Vs.aO,Vs.hset,Vs.aP,Vs.E,sB,cC];done)
  .obtain rfl:k=0:=by simp at hc;omega
   rw[ddF] at hr
   subst hr
   dsimp only at *
   have hlen:o.length=k0:=by omega
   simp -dsimp only[go_sem,cC,sB]
   first|exact⟨⟨_,_,rfl,rfl⟩,λh=>h rfl⟩|exact⟨_,_,rfl,rfl⟩
end
section
variable [Vs.Envs]
attribute [local irreducible] Vs.Fn nxV nxS pkV pkS ptN dtF kQ hoF hoR mid
open Go.Vs.Q in
def CdV.jD:aD:=s [m 4 0,o 5 (.call (.func F.aF) [4,(k 3)] [0])] [0,1,5]<|.block 0 (s [en 7 5 0,m 6 7] [0,1,5,6]<|.cond 6 (.region [m 8 1,o 9 (.bslice 1 0 [.v (.int .i64 (0))] []),nc 10 8,fa 11 0 10,⟨none,.store 1 11 9,none⟩] [] []) (s [en 13 5 1,m 12 13] [0,1,5,12]<|.cond 12 (.region [m 14 1,m 15
 0,o 16 (.call (.func F.aF) [15,(k 2)] [0]),o 17 (.bin .add (k 20) 16),o 18 (.mk 1 8 [.v (.int .i64 (0))] 17),nc 19 14,fa 20 0 19,⟨none,.store 1 20 18,none⟩] [] []) (s [en 22 5 2,m 21 22] [0,1,21]<|.cond 21 (s [m 23 1,nc 24 23,fa 25 0 24,lf 26 1 25,ln 27 26,o 28 (.bin .gtr 27 (k 0))]
 [0,1,28]<|.cond 28 (.region [m 29 1,nc 30 29,fa 31 0 30,lf 32 1 31,m 33 0,m 34 1,nc 35 34,fa 36 0 35,lf 37 1 36,ln 38 37,o 39 (.call (.func F.aF) [33,38] [0]),m 40 0,o 41 (.bslice 1 5 [.v (.int .i64 (0))] [(0,(k (-1))),(1,(k 0)),(2,(k 4095)),(3,(k 4096)),(4,(k
 (-9223372036854775808)))]),o 42 (.call (.func F.bH) [40,41] [0]),ix 43 1 32 39,⟨none,.store 1 43 42,none⟩] [] [3000000]) .skip) .skip)))
theorem CdV.l02Spoil_rs:Tryz.f58.results.toList=[]:=rfl
theorem CdV.l02Spoil_nt:Tryz.f58.ntmps=44:=rfl
theorem CdV.l02Spoil_ok:lI Tryz.prog [([[],[0],[1],[2],[],[],[5],[6],[7],[8],[4,9],[],[],[11,12,10],[3,10,13],[14]],[0,1,2,4,5,6,7,11])] 58 Tryz.f58 CdV.jD:=⟨Tryz.func58,by kernel_rfl,by decide +kernel⟩
attribute [local go_sem] Int.reduceBEq Int.reduceBNe cC aJ List.replicate_succ List.replicate_zero List.flatten_cons List.flatten_nil List.cons_append List.nil_append List.set_cons_zero List.set_cons_succ List.length_cons List.length_nil List.length_set List.mem_singleton List.mem_cons List.not_mem_nil or_false false_or Vs.Name.t.injEq List.getD_cons_zero List.getD_cons_succ bW bX eF List.append_nil List.flatMap_cons List.flatMap_nil List.getElem?_cons_zero List.getElem?_cons_succ Vs.Name.b.injEq Nat.zero_ne_one Nat.one_ne_zero zY aFa aFc aDR aFb aGe aE9 Nat.add_zero in
theorem jD (l:List Int) (y:Sr) (hl:byt l) (c:List Int) (hc:c.length<=20) (hp:y.p<=3000):∃(xx:AV) (c':List Int) (z:Sr),(xx=.loc (.b 2) 0 c.length∨∃c2:List Int,xx=.sl 1 (E cI c2)∧c2.length<=100)∧c'.length=c.length∧z.p<=y.p+8∧
  ∀A1 A2:List Value,A1.length+A2.length<=100->Vs.Fn Tryz.prog F.jQ [sB l y,.var (mid A1 (.loc (.b 2) 0 c.length) A2) false,.arr 1 (E cI c) false] [.ptr (.b 0) 0 0,.ptr (.b 1) 0 A1.length] (.tup []) [some (sB l z),some (.var (mid A1 xx A2) false),some (.arr 1 (E cI c') false)]:=by
 have P1:=pick l y hl 3 (by omega)
 have v1:=bC hl y (n:=3) (by omega)
 have q1:=aR l y 3
 generalize pkV l y 3=r1 at *
 generalize pkS l y 3=y1 at *
 have hcl:(E cI c).length=c.length:=aJ _
 by_cases h0:r1=0
 .have e0:(r1==0)=true:=beq_iff_eq.2 h0
  refine⟨.sl 1 [],c,y1,.inr ⟨[],rfl,by simp⟩,rfl,by omega,λA1 A2 hab=>?_⟩
  refine CdV.l02Spoil_ok.fn Tryz.mixed (hin:=[sB l y,.var (mid A1 (.loc (.b 2) 0 c.length) A2) false,.arr 1 (E cI c) false]) _ _ [.b 0,.b 1,.b 2] [sB l y1,.var (mid A1 (.sl 1 []) A2) false,.arr 1 (E cI c) false] CdV.l02Spoil_nt CdV.l02Spoil_rs rfl (by simp) rfl (λj hj=>by match j,hj with|0,_=>rfl|1,_=>rfl|2,_=>rfl) λX=>?_
  unfold CdV.jD
  simp -dsimp only[go_sem,e0,hcl,sB]
  repeat' (first
    |(refine RgK.mk rfl ?_;simp -dsimp only[go_sem,e0,hcl,sB])
    |(refine RgK.ord Tryz.mixed [[],[0],[1],[2],[],[],[5],[6],[7],[8],[4,9],[],[],[11,12,10],[3,10,13],[14]] [0,1,2,4,5,6,7,11] rfl rfl (by decide) (T0:=[3,8,9,10,12,13,14,15]) rfl (n:=8) rfl rfl ?_;simp -dsimp only[go_sem,vcF,pv,vcO,List.map_cons,List.map_nil,Option.isSome_some,e0,hcl,sB])
    |(refine OrK.yes rfl ?_ ?_<;>try simp -dsimp only[go_sem,vcO,e0,hcl,sB])
    |refine OrK.no rfl ?_
    |exact OrK.nil
    |(refine Br.mk (λh=>?_) (λh=>?_)<;>simp -dsimp only[go_sem,h,e0,hcl,sB])
    |(refine aB.bor (by first|exact P1) rfl ?_;simp -dsimp only[go_sem,e0,hcl,sB])
    |(refine aC9 ?_;try simp -dsimp only[go_sem,e0,hcl,sB])
    |fail)
  all_goals first|omega|exact⟨_,_,rfl,rfl⟩
 have e0:(r1==0)=false:=beq_eq_false_iff_ne.2 h0
 by_cases h1:r1=1
 .have e1:(r1==1)=true:=beq_iff_eq.2 h1
  have P2:=pick l y1 hl 2 (by omega)
  have v2:=bC hl y1 (n:=2) (by omega)
  have q2:=aR l y1 2
  generalize pkS l y1 2=y2 at *
  obtain⟨m,hm⟩:∃m:Nat,pkV l y1 2=m:=⟨(pkV l y1 2).toNat,by omega⟩
  rw[hm] at P2 v2
  have w20:IntKind.i64.wrap (20+(m:Int))=((20+m:Nat):Int):=by rw[aG (by omega) (by omega)];omega
  have hrp:(List.replicate (20+m) [AV.v (.int .i64 0)]).take (20+m)=E cI (List.replicate (20+m) 0):=by
   rw[List.take_of_length_le (by simp)]
   simp[E,cI]
  refine⟨.sl 1 (E cI (List.replicate (20+m) 0)),c,y2,.inr ⟨_,rfl,by simp;omega⟩,rfl,by omega,λA1 A2 hab=>?_⟩
  refine CdV.l02Spoil_ok.fn Tryz.mixed (hin:=[sB l y,.var (mid A1 (.loc (.b 2) 0 c.length) A2) false,.arr 1 (E cI c) false]) _ _ [.b 0,.b 1,.b 2] [sB l y2,.var (mid A1 (.sl 1 (E cI (List.replicate (20+m) 0))) A2) false,.arr 1 (E cI c) false] CdV.l02Spoil_nt CdV.l02Spoil_rs rfl (by simp) rfl (λj hj=>by match j,hj with|0,_=>rfl|1,_=>rfl|2,_=>rfl) λX=>?_
  unfold CdV.jD
  simp -dsimp only[go_sem,e0,e1,hcl,w20,hrp,sB]
  repeat' (first
    |(refine RgK.mk rfl ?_;simp -dsimp only[go_sem,e0,e1,hcl,w20,hrp,sB])
    |(refine RgK.ord Tryz.mixed [[],[0],[1],[2],[],[],[5],[6],[7],[8],[4,9],[],[],[11,12,10],[3,10,13],[14]] [0,1,2,4,5,6,7,11] rfl rfl (by decide) (T0:=[3,8,9,10,12,13,14,15]) rfl (n:=8) rfl rfl ?_;simp -dsimp only[go_sem,vcF,pv,vcO,List.map_cons,List.map_nil,Option.isSome_some,e0,e1,hcl,w20,hrp,sB])
    |(refine OrK.yes rfl ?_ ?_<;>try simp -dsimp only[go_sem,vcO,e0,e1,hcl,w20,hrp,sB])
    |refine OrK.no rfl ?_
    |exact OrK.nil
    |(refine Br.mk (λh=>?_) (λh=>?_)<;>simp -dsimp only[go_sem,h,e0,e1,hcl,w20,hrp,sB])
    |(refine aB.bor (by first|exact P1|exact P2) rfl ?_;simp -dsimp only[go_sem,e0,e1,hcl,w20,hrp,sB])
    |(refine aC9 ?_;try simp -dsimp only[go_sem,e0,e1,hcl,w20,hrp,sB])
    |fail)
  all_goals first|omega|exact⟨_,_,rfl,rfl⟩
 have e1:(r1==1)=false:=beq_eq_false_iff_ne.2 h1
 have e2:(r1==2)=true:=beq_iff_eq.2 (by omega)
 by_cases hc0:c.length=0
 .have ec:decide ((c.length:Int)>0)=false:=decide_eq_false (by omega)
  refine⟨.loc (.b 2) 0 c.length,c,y1,.inl rfl,rfl,by omega,λA1 A2 hab=>?_⟩
  refine CdV.l02Spoil_ok.fn Tryz.mixed (hin:=[sB l y,.var (mid A1 (.loc (.b 2) 0 c.length) A2) false,.arr 1 (E cI c) false]) _ _ [.b 0,.b 1,.b 2] [sB l y1,.var (mid A1 (.loc (.b 2) 0 c.length) A2) false,.arr 1 (E cI c) false] CdV.l02Spoil_nt CdV.l02Spoil_rs rfl (by simp) rfl (λj hj=>by match j,hj with|0,_=>rfl|1,_=>rfl|2,_=>rfl) λX=>?_
  unfold CdV.jD
  simp -dsimp only[go_sem,e0,e1,e2,ec,hcl,sB]
  repeat' (first
    |(refine RgK.mk rfl ?_;simp -dsimp only[go_sem,e0,e1,e2,ec,hcl,sB])
    |(refine RgK.ord Tryz.mixed [[],[0],[1],[2],[],[],[5],[6],[7],[8],[4,9],[],[],[11,12,10],[3,10,13],[14]] [0,1,2,4,5,6,7,11] rfl rfl (by decide) (T0:=[3,8,9,10,12,13,14,15]) rfl (n:=8) rfl rfl ?_;simp -dsimp only[go_sem,vcF,pv,vcO,List.map_cons,List.map_nil,Option.isSome_some,e0,e1,e2,ec,hcl,sB])
    |(refine OrK.yes rfl ?_ ?_<;>try simp -dsimp only[go_sem,vcO,e0,e1,e2,ec,hcl,sB])
    |refine OrK.no rfl ?_
    |exact OrK.nil
    |(refine Br.mk (λh=>?_) (λh=>?_)<;>simp -dsimp only[go_sem,h,e0,e1,e2,ec,hcl,sB])
    |(refine aB.bor (by first|exact P1) rfl ?_;simp -dsimp only[go_sem,e0,e1,e2,ec,hcl,sB])
    |(refine aC9 ?_;try simp -dsimp only[go_sem,e0,e1,e2,ec,hcl,sB])
    |fail)
  all_goals first|omega|exact⟨_,_,rfl,rfl⟩
 have ec:decide ((c.length:Int)>0)=true:=decide_eq_true (by omega)
 have P2:=pick l y1 hl (c.length:Nat) (by omega)
 have v2:=bC hl y1 (n:=(c.length:Nat)) (by omega)
 have q2:=aR l y1 (c.length:Nat)
 generalize pkS l y1 (c.length:Nat)=y2 at *
 obtain⟨i,hi⟩:∃i:Nat,pkV l y1 (c.length:Nat)=i:=⟨(pkV l y1 (c.length:Nat)).toNat,by omega⟩
 rw[hi] at P2 v2
 have AM:=among l y2 hl [-1,0,4095,4096,-9223372036854775808] (by omega) (by simp) (by simp)
 rw[show E cI [-1,0,4095,4096,-9223372036854775808]=[[.v (.int .i64 (-1))],[.v (.int .i64 0)],[.v (.int .i64 4095)],[.v (.int .i64 4096)],[.v (.int .i64 (-9223372036854775808))]] from rfl] at AM
 have q3:=aR l y2 ((([-1,0,4095,4096,-9223372036854775808]:List Int).length:Nat):Int)
 generalize pkS l y2 ((([-1,0,4095,4096,-9223372036854775808]:List Int).length:Nat):Int)=y3 at *
 generalize([-1,0,4095,4096,-9223372036854775808]:List Int).getD _ 0=v3 at AM
 have gi:(E cI c).getD i []=[.v (.int .i64 (c.getD i 0))]:=by
  rw[bI (show i<c.length by omega)]
  simp[cI,List.getD,show i<c.length by omega]
 have si:(E cI c).set i [.v (.int .i64 v3)]=E cI (c.set i v3):=by simp[E,cI,List.map_set]
 have hi':(i:Int)<c.length:=by omega
 refine⟨.loc (.b 2) 0 c.length,c.set i v3,y3,.inl rfl,by simp,by omega,λA1 A2 hab=>?_⟩
 refine CdV.l02Spoil_ok.fn Tryz.mixed (hin:=[sB l y,.var (mid A1 (.loc (.b 2) 0 c.length) A2) false,.arr 1 (E cI c) false]) _ _ [.b 0,.b 1,.b 2] [sB l y3,.var (mid A1 (.loc (.b 2) 0 c.length) A2) false,.arr 1 (E cI (c.set i v3)) false] CdV.l02Spoil_nt CdV.l02Spoil_rs rfl (by simp) rfl (λj hj=>by match j,hj with|0,_=>rfl|1,_=>rfl|2,_=>rfl) λX=>?_
 unfold CdV.jD
 simp -dsimp only[go_sem,e0,e1,e2,ec,hcl,gi,si,sB]
 repeat' (first
   |(refine RgK.mk rfl ?_;simp -dsimp only[go_sem,e0,e1,e2,ec,hcl,gi,si,sB])
   |(refine RgK.ord Tryz.mixed [[],[0],[1],[2],[],[],[5],[6],[7],[8],[4,9],[],[],[11,12,10],[3,10,13],[14]] [0,1,2,4,5,6,7,11] rfl rfl (by decide) (T0:=[3,8,9,10,12,13,14,15]) rfl (n:=8) rfl rfl ?_;simp -dsimp only[go_sem,vcF,pv,vcO,List.map_cons,List.map_nil,Option.isSome_some,e0,e1,e2,ec,hcl,gi,si,sB])
   |(refine OrK.yes rfl ?_ ?_<;>try simp -dsimp only[go_sem,vcO,e0,e1,e2,ec,hcl,gi,si,sB])
   |refine OrK.no rfl ?_
   |exact OrK.nil
   |(refine Br.mk (λh=>?_) (λh=>?_)<;>simp -dsimp only[go_sem,h,e0,e1,e2,ec,hcl,gi,si,sB])
   |(refine aB.bor (by first|exact P1|exact P2) rfl ?_;simp -dsimp only[go_sem,e0,e1,e2,ec,hcl,gi,si,sB])
   |(refine aB.borM (by first|exact AM) rfl ?_;simp -dsimp only[go_sem,e0,e1,e2,ec,hcl,gi,si,sB])
   |(refine aC9 ?_;try simp -dsimp only[go_sem,e0,e1,e2,ec,hcl,gi,si,sB])
   |fail)
 all_goals first|omega|exact⟨_,_,rfl,rfl⟩
end
end Go.Proofs.YtfoddghhlagenaaGreatDoor
