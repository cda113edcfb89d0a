/- A card that is drawn: its row is handed over. -/
import Derived.Test.YtfoddghhlagenaaGreatDoorTwPc
set_option linter.all false
set_option maxHeartbeats 8000000
namespace Go.Proofs.YtfoddghhlagenaaGreatDoor
open Go.Vs
variable [Vs.Envs]
attribute [local irreducible] Vs.Fn nxV nxS pkV pkS ptN dtF kQ
def shV (a n:Int):Int:=IntKind.i64.wrap (a*2 ^ (min n.toNat 64))
def hoR (l:List Int) (x:Sr):Int×Sr:=
 if pkV l (pkS l x 10) 6=0 then(0,pkS l (pkS l x 10) 6)
 else if pkV l (pkS l x 10) 6=1 then(Vs.bJ .or .i64 (shV 1 (pkV l (pkS l (pkS l x 10) 6) 3)) (shV 8 (pkV l (pkS l (pkS l (pkS l x 10) 6) 3) 9)),pkS l (pkS l (pkS l (pkS l x 10) 6) 3) 9)
 else if pkV l (pkS l x 10) 6=2 then(pkV l (pkS l (pkS l x 10) 6) 4096,pkS l (pkS l (pkS l x 10) 6) 4096)
 else(shV 4 (pkV l x 10),pkS l (pkS l x 10) 6)
def hoF (l:List Int):Nat->Sr->List Int->List Int×Sr
 |0,x,o=>(o,x)
 |k+1,x,o=>hoF l k (hoR l x).2 (o++[(hoR l x).1])
theorem aEd (l:List Int) (x:Sr):(hoR l x).2.p<=x.p+8:=by
 unfold hoR
 have h1:=aR l x 10
 have h2:=aR l (pkS l x 10) 6
 have h3:=aR l (pkS l (pkS l x 10) 6) 3
 have h4:=aR l (pkS l (pkS l (pkS l x 10) 6) 3) 9
 have h5:=aR l (pkS l (pkS l x 10) 6) 4096
 split
 .show(pkS l (pkS l x 10) 6).p<=_;omega
 split
 .show(pkS l (pkS l (pkS l (pkS l x 10) 6) 3) 9).p<=_;omega
 split
 .show(pkS l (pkS l (pkS l x 10) 6) 4096).p<=_;omega
 .show(pkS l (pkS l x 10) 6).p<=_;omega
theorem nI (l:List Int):∀(k:Nat) (x:Sr) (o:List Int),(hoF l k x o).1.length=o.length+k∧(hoF l k x o).2.p<=x.p+8*k
 |0,x,o=>⟨rfl,by simp[hoF]⟩
 | k+1,x,o=>by
  have ih:=nI l k (hoR l x).2 (o++[(hoR l x).1])
  have h1:=aEd l x
  rw[hoF]
  refine⟨?_,by omega⟩
  rw[ih.1,List.length_append];simp only[List.length_singleton];omega
theorem aCx {v n:Int} (h:0<=v∧v<n) (hn:n<=4096):IntKind.u64.wrap v=v:=by simp[IntKind.wrap,IntKind.signed,IntKind.bits];omega
def gvH (i:Nat):AV:=if i=0 then .v (.slice none 0 0) else .loc (.t 42 0) 0 i
def ghH (o:List Int) (i:Nat):List (Vs.Name×Blk):=if i=0 then[] else[(.t 42 0,.arr 1 (E cI o) false)]
attribute [local go_sem] Int.reduceBEq Int.reduceBNe cC aJ List.replicate_succ List.replicate_zero List.flatten_cons List.flatten_nil List.cons_append List.nil_append List.set_cons_zero List.set_cons_succ List.length_cons List.length_nil List.length_set List.mem_singleton List.mem_cons List.not_mem_nil or_false false_or Vs.Name.t.injEq List.getD_cons_zero List.getD_cons_succ bW bX eF List.append_nil List.flatMap_cons List.flatMap_nil Int.reduceAdd Int.reduceSub Int.reduceMul cC in
theorem zZ (l:List Int) (x:Sr) (hl:byt l) (n:Nat) (h0:0<n) (hn:n<=20) (hp:x.p<=3000):Vs.Fn Tryz.prog F.dC [sB l x] [.ptr (.b 0) 0 0,.v (.int .i64 n)] (.agg [.loc (.b 1) 0 n]) [some (sB l (hoF l n x []).2),some (.arr 1 (E cI (hoF l n x []).1) false)]:=by
 have hRl:=(nI l n x []).1
 simp only[List.length_nil,Nat.zero_add] at hRl
 have hall:hoF l n x []=hoF l (n-0) x []:=rfl
 generalize hR:hoF l n x []=R at *
 refine fn1 Cd.s_l02Draw_k [.b 0,.t 42 0] [sB l R.2,.arr 1 (E cI R.1) false] λX=>?_
 unfold Cd.dC
 repeat' first|simp -dsimp only[go_sem,sB]|apply Br.mk<;>intro h<;>try simp -dsimp only[h]|refine aC ?_|refine aC9 ?_|fail
 refine bA.intro dM (X:={zz:Nat×Sr×List Int // zz.1<=n∧zz.2.2.length=zz.1∧(zz.2.1.p+8*(n-zz.1)<=3300)∧hoF l (n-zz.1) zz.2.1 zz.2.2=R}) (λzz=>⟨[(0,.ptr (.b 0) 0 0),(1,.v (.int .i64 (n:Nat))),(4,.ptr (.t 4 0) 0 0),(5,.ptr (.t 5 0) 0 0),(6,.v (.int .i64 (zz.1.1:Nat)))],(.b 0,sB l zz.1.2.1)::(.t 5 0,.var [gvH zz.1.1] false)::(.t 4 0,.var [.v (.slice none 0 0)] false)::ghH zz.1.2.2 zz.1.1⟩) (λzz=>n-zz.1.1) ⟨(0,x,[]),by dsimp only;omega,rfl,by dsimp only;omega,by dsimp only;rw[←hR];rfl⟩ ?_ ?_
 .simp[Vs.LeL,Vs.look,Vs.aA,Vs.bL,Vs.aO,Vs.hset,Vs.aP,gvH,ghH,sB]
 .rintro⟨⟨i,y,o⟩,hi,ho,hk,hr⟩
  dsimp only at hi ho hk hr
  have hw:IntKind.i64.wrap ((i:Int)+1)=((i+1:Nat):Int):=by rw[aG (by omega) (by omega)];omega
  by_cases hz:i=0
  .subst hz
   obtain rfl:o=[]:=List.eq_nil_of_length_eq_zero ho
   simp only[gvH,ghH,if_true]
   try simp -dsimp only[go_sem,sB]
   refine Br.mk (λhc=>?_) λhc=>?_
   .rw[show n-0=(n-0-1)+1 by omega,hoF] at hr
    have P1:=pick l y hl 10 (by omega)
    have v1:=bC hl y (n:=10) (by omega)
    have q1:=aR l y 10
    have u1:=aCx v1 (by omega)
    have P2:=pick l (pkS l y 10) hl 6 (by omega)
    have v2:=bC hl (pkS l y 10) (n:=6) (by omega)
    have q2:=aR l (pkS l y 10) 6
    have hq:=aEd l y
    unfold hoR at hr hq
    generalize pkV l (pkS l y 10) 6=r2 at *
    generalize pkS l (pkS l y 10) 6=x2 at *
    generalize pkV l y 10=r1 at *
    generalize pkS l y 10=x1 at *
    by_cases h0:r2=0
    .simp only[h0,if_true,if_false] at hr hq
     have e0:(r2==0)=true:=beq_iff_eq.2 h0
     generalize x2=y2 at *
     have hap:[[AV.v (.int .i64 (0))]]=E cI [0]:=by rfl
     repeat' first|simp -dsimp only[go_sem,e0,u1,hw,sB]|apply Br.mk<;>intro h<;>try simp -dsimp only[h]|refine aB.bor (by first|exact P1|exact P2) rfl ?_|refine aC ?_|refine aC9 ?_|fail
     all_goals first|omega|(refine⟨⟨(0+1,y2,[0]),by dsimp only;omega,rfl,by dsimp only;omega,by rw[show n-(0+1)=n-0-1 by omega];exact hr⟩,?_,by simp only;omega⟩;simp[Vs.LeL,Vs.look,Vs.aA,Vs.bL,Vs.aO,Vs.hset,Vs.aP,Vs.E,sB,gvH,ghH,cI];done)
    have e0:(r2==0)=false:=beq_eq_false_iff_ne.2 h0
    by_cases h1:r2=1
    .simp only[h0,h1,if_true,if_false] at hr hq
     have e1:(r2==1)=true:=beq_iff_eq.2 h1
     have P3:=pick l x2 hl 3 (by omega)
     have v3:=bC hl x2 (n:=3) (by omega)
     have q3:=aR l x2 3
     have P4:=pick l (pkS l x2 3) hl 9 (by omega)
     have v4:=bC hl (pkS l x2 3) (n:=9) (by omega)
     have q4:=aR l (pkS l x2 3) 9
     have u3:=aCx v3 (by omega)
     have u4:=aCx v4 (by omega)
     generalize pkV l x2 3=r3 at *
     generalize pkV l (pkS l x2 3) 9=r4 at *
     generalize pkS l (pkS l x2 3) 9=y2 at *
     generalize pkS l x2 3=x3 at *
     obtain⟨hh,hhe⟩:∃hh,Vs.bJ .or .i64 (shV 1 r3) (shV 8 r4)=hh:=⟨_,rfl⟩
     rw[hhe] at hr
     unfold shV at hhe
     have hap:[[AV.v (.int .i64 (hh))]]=E cI [hh]:=by rfl
     repeat' first|simp -dsimp only[go_sem,e0,e1,u1,u3,u4,hhe,hw,hap,sB]|apply Br.mk<;>intro h<;>try simp -dsimp only[h]|refine aB.bor (by first|exact P1|exact P2|exact P3|exact P4) rfl ?_|refine aC ?_|refine aC9 ?_|fail
     all_goals first|omega|(refine⟨⟨(0+1,y2,[hh]),by dsimp only;omega,rfl,by dsimp only;omega,by rw[show n-(0+1)=n-0-1 by omega];exact hr⟩,?_,by simp only;omega⟩;simp[Vs.LeL,Vs.look,Vs.aA,Vs.bL,Vs.aO,Vs.hset,Vs.aP,Vs.E,sB,gvH,ghH,hap];done)
    have e1:(r2==1)=false:=beq_eq_false_iff_ne.2 h1
    by_cases h2:r2=2
    .simp only[h0,h1,h2,if_true,if_false] at hr hq
     have e2:(r2==2)=true:=beq_iff_eq.2 h2
     have P3:=pick l x2 hl 4096 (by omega)
     have q3:=aR l x2 4096
     generalize pkV l x2 4096=r3 at *
     generalize pkS l x2 4096=y2 at *
     have hap:[[AV.v (.int .i64 (r3))]]=E cI [r3]:=by rfl
     repeat' first|simp -dsimp only[go_sem,e0,e1,e2,u1,hw,hap,sB]|apply Br.mk<;>intro h<;>try simp -dsimp only[h]|refine aB.bor (by first|exact P1|exact P2|exact P3) rfl ?_|refine aC ?_|refine aC9 ?_|fail
     all_goals first|omega|(refine⟨⟨(0+1,y2,[r3]),by dsimp only;omega,rfl,by dsimp only;omega,by rw[show n-(0+1)=n-0-1 by omega];exact hr⟩,?_,by simp only;omega⟩;simp[Vs.LeL,Vs.look,Vs.aA,Vs.bL,Vs.aO,Vs.hset,Vs.aP,Vs.E,sB,gvH,ghH,hap];done)
    have e2:(r2==2)=false:=beq_eq_false_iff_ne.2 h2
    simp only[h0,h1,h2,if_false] at hr hq
    generalize x2=y2 at *
    obtain⟨hh,hhe⟩:∃hh,shV 4 r1=hh:=⟨_,rfl⟩
    rw[hhe] at hr
    unfold shV at hhe
    have hap:[[AV.v (.int .i64 (hh))]]=E cI [hh]:=by rfl
    repeat' first|simp -dsimp only[go_sem,e0,e1,e2,u1,hhe,hw,hap,sB]|apply Br.mk<;>intro h<;>try simp -dsimp only[h]|refine aB.bor (by first|exact P1|exact P2) rfl ?_|refine aC ?_|refine aC9 ?_|fail
    all_goals first|omega|(refine⟨⟨(0+1,y2,[hh]),by dsimp only;omega,rfl,by dsimp only;omega,by rw[show n-(0+1)=n-0-1 by omega];exact hr⟩,?_,by simp only;omega⟩;simp[Vs.LeL,Vs.look,Vs.aA,Vs.bL,Vs.aO,Vs.hset,Vs.aP,Vs.E,sB,gvH,ghH,hap];done)
   .have:¬0<n:=Dq
    omega
  .simp only[gvH,ghH,if_neg hz]
   have hal:(E cI o).length=i:=by rw[aJ];exact ho
   have htk:(E cI o).take i=E cI o:=List.take_of_length_le (by omega)
   try simp -dsimp only[go_sem,hal,htk,sB]
   refine Br.mk (λhc=>?_) λhc=>?_
   .have hlt:i<n:=Dq
    rw[show n-i=(n-i-1)+1 by omega,hoF] at hr
    have P1:=pick l y hl 10 (by omega)
    have v1:=bC hl y (n:=10) (by omega)
    have q1:=aR l y 10
    have u1:=aCx v1 (by omega)
    have P2:=pick l (pkS l y 10) hl 6 (by omega)
    have v2:=bC hl (pkS l y 10) (n:=6) (by omega)
    have q2:=aR l (pkS l y 10) 6
    have hq:=aEd l y
    unfold hoR at hr hq
    generalize pkV l (pkS l y 10) 6=r2 at *
    generalize pkS l (pkS l y 10) 6=x2 at *
    generalize pkV l y 10=r1 at *
    generalize pkS l y 10=x1 at *
    by_cases h0:r2=0
    .simp only[h0,if_true,if_false] at hr hq
     have e0:(r2==0)=true:=beq_iff_eq.2 h0
     generalize x2=y2 at *
     have hap:E cI o++[[AV.v (.int .i64 (0))]]=E cI (o++[0]):=by rw[bR];rfl
     repeat' first|simp -dsimp only[go_sem,e0,u1,hw,hap,hal,htk,sB]|apply Br.mk<;>intro h<;>try simp -dsimp only[h]|refine aB.bor (by first|exact P1|exact P2) rfl ?_|refine aC ?_|refine aC9 ?_|fail
     all_goals first|omega|(refine⟨⟨(i+1,y2,o++[0]),by dsimp only;omega,by dsimp only;rw[List.length_append];simp only[List.length_singleton];omega,by dsimp only;omega,by rw[show n-(i+1)=n-i-1 by omega];exact hr⟩,?_,by simp only;omega⟩;simp[Vs.LeL,Vs.look,Vs.aA,Vs.bL,Vs.aO,Vs.hset,Vs.aP,Vs.E,sB,gvH,ghH,hap];done)
    have e0:(r2==0)=false:=beq_eq_false_iff_ne.2 h0
    by_cases h1:r2=1
    .simp only[h0,h1,if_true,if_false] at hr hq
     have e1:(r2==1)=true:=beq_iff_eq.2 h1
     have P3:=pick l x2 hl 3 (by omega)
     have v3:=bC hl x2 (n:=3) (by omega)
     have q3:=aR l x2 3
     have P4:=pick l (pkS l x2 3) hl 9 (by omega)
     have v4:=bC hl (pkS l x2 3) (n:=9) (by omega)
     have q4:=aR l (pkS l x2 3) 9
     have u3:=aCx v3 (by omega)
     have u4:=aCx v4 (by omega)
     generalize pkV l x2 3=r3 at *
     generalize pkV l (pkS l x2 3) 9=r4 at *
     generalize pkS l (pkS l x2 3) 9=y2 at *
     generalize pkS l x2 3=x3 at *
     obtain⟨hh,hhe⟩:∃hh,Vs.bJ .or .i64 (shV 1 r3) (shV 8 r4)=hh:=⟨_,rfl⟩
     rw[hhe] at hr
     unfold shV at hhe
     have hap:E cI o++[[AV.v (.int .i64 (hh))]]=E cI (o++[hh]):=by rw[bR];rfl
     repeat' first|simp -dsimp only[go_sem,e0,e1,u1,u3,u4,hhe,hw,hap,hal,htk,sB]|apply Br.mk<;>intro h<;>try simp -dsimp only[h]|refine aB.bor (by first|exact P1|exact P2|exact P3|exact P4) rfl ?_|refine aC ?_|refine aC9 ?_|fail
     all_goals first|omega|(refine⟨⟨(i+1,y2,o++[hh]),by dsimp only;omega,by dsimp only;rw[List.length_append];simp only[List.length_singleton];omega,by dsimp only;omega,by rw[show n-(i+1)=n-i-1 by omega];exact hr⟩,?_,by simp only;omega⟩;simp[Vs.LeL,Vs.look,Vs.aA,Vs.bL,Vs.aO,Vs.hset,Vs.aP,Vs.E,sB,gvH,ghH,hap];done)
    have e1:(r2==1)=false:=beq_eq_false_iff_ne.2 h1
    by_cases h2:r2=2
    .simp only[h0,h1,h2,if_true,if_false] at hr hq
     have e2:(r2==2)=true:=beq_iff_eq.2 h2
     have P3:=pick l x2 hl 4096 (by omega)
     have q3:=aR l x2 4096
     generalize pkV l x2 4096=r3 at *
     generalize pkS l x2 4096=y2 at *
     have hap:E cI o++[[AV.v (.int .i64 (r3))]]=E cI (o++[r3]):=by rw[bR];rfl
     repeat' first|simp -dsimp only[go_sem,e0,e1,e2,u1,hw,hap,hal,htk,sB]|apply Br.mk<;>intro h<;>try simp -dsimp only[h]|refine aB.bor (by first|exact P1|exact P2|exact P3) rfl ?_|refine aC ?_|refine aC9 ?_|fail
     all_goals first|omega|(refine⟨⟨(i+1,y2,o++[r3]),by dsimp only;omega,by dsimp only;rw[List.length_append];simp only[List.length_singleton];omega,by dsimp only;omega,by rw[show n-(i+1)=n-i-1 by omega];exact hr⟩,?_,by simp only;omega⟩;simp[Vs.LeL,Vs.look,Vs.aA,Vs.bL,Vs.aO,Vs.hset,Vs.aP,Vs.E,sB,gvH,ghH,hap];done)
    have e2:(r2==2)=false:=beq_eq_false_iff_ne.2 h2
    simp only[h0,h1,h2,if_false] at hr hq
    generalize x2=y2 at *
    obtain⟨hh,hhe⟩:∃hh,shV 4 r1=hh:=⟨_,rfl⟩
    rw[hhe] at hr
    unfold shV at hhe
    have hap:E cI o++[[AV.v (.int .i64 (hh))]]=E cI (o++[hh]):=by rw[bR];rfl
    repeat' first|simp -dsimp only[go_sem,e0,e1,e2,u1,hhe,hw,hap,hal,htk,sB]|apply Br.mk<;>intro h<;>try simp -dsimp only[h]|refine aB.bor (by first|exact P1|exact P2) rfl ?_|refine aC ?_|refine aC9 ?_|fail
    all_goals first|omega|(refine⟨⟨(i+1,y2,o++[hh]),by dsimp only;omega,by dsimp only;rw[List.length_append];simp only[List.length_singleton];omega,by dsimp only;omega,by rw[show n-(i+1)=n-i-1 by omega];exact hr⟩,?_,by simp only;omega⟩;simp[Vs.LeL,Vs.look,Vs.aA,Vs.bL,Vs.aO,Vs.hset,Vs.aP,Vs.E,sB,gvH,ghH,hap];done)
   .have hge:i=n:=by
     have:¬i<n:=Dq
     omega
    subst hge
    rw[Nat.sub_self,hoF] at hr
    subst hr
    try simp -dsimp only[go_sem,hal,htk,sB]
    all_goals first|exact⟨_,_,rfl,rfl⟩|exact⟨⟨_,_,rfl,rfl⟩,λh=>h rfl⟩
end Go.Proofs.YtfoddghhlagenaaGreatDoor
