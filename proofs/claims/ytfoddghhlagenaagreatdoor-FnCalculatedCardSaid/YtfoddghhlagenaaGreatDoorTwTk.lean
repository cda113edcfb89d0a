/- The law FnCalculated. -/
import Derived.Test.YtfoddghhlagenaaGreatDoorVsD
import Derived.Test.YtfoddghhlagenaaGreatDoorTwCc
import Derived.Test.YtfoddghhlagenaaGreatDoorTwCd
import Derived.Test.YtfoddghhlagenaaGreatDoorTwTb
import Derived.Test.YtfoddghhlagenaaGreatDoorTwC
import Derived.Test.YtfoddghhlagenaaGreatDoorTwZb
import Derived.Test.YtfoddghhlagenaaGreatDoorVuX
import Derived.Test.YtfoddghhlagenaaGreatDoorTwTi
import Derived.Test.YtfoddghhlagenaaGreatDoorTwTg
set_option linter.all false
set_option maxHeartbeats 8000000
namespace Go.Proofs.YtfoddghhlagenaaGreatDoor
open Go.Vs
section
variable [Vs.Tab 0 Vs.powP]
attribute [local irreducible] Vs.Fn
attribute [local go_sem] cFd cT3 List.mem_singleton Name.t.injEq false_and Blk.row List.replicate_succ List.replicate_zero List.flatten_cons List.flatten_nil List.cons_append List.nil_append List.set_cons_zero List.set_cons_succ List.length_cons List.length_nil List.length_set aJ
theorem deckE (l:List (List Int)):(l.map (E cI)).map (λr=>[AV.sl 1 r])=E cC l:=by simp[E,cC]
theorem aAn (k:Int) (p q t:Int×Int) (l:List (List Int)) (hk:jK l) {S:Nat->Prop}{w:World}{vs:Array Value} (hS:∀b,S b->b<w.heap.size) (he:Env S w) (hvs:vs.size=5) (hargs:∀j,j<5->RC S w (([.v (.int .i64 k),.sl 1 (E cC l),.agg (cPf p),.agg (cPf q),.agg (cPf t)]:List AV).getD j .junk) (vs.getD j undef)) :
  Calls Tryz.prog F.bE vs w (Vs.aBO w ((cdL k p q t l).map (E cI)) (.int .i64 (cdk k p q t l))):=by
 by_cases h0:cdk k p q t l=0
 .obtain⟨hd,hb⟩:dO l=true∧wE k p q t l=true:=by
   cases h:dO l
   .exact absurd h0 (by simp[cdk,h])
   .cases h2:wE k p q t l
    .exact absurd h0 (by simp[cdk,h,h2])
    .exact⟨rfl,rfl⟩
  obtain⟨hk1,hk2,hok⟩:=x9 hd hb
  have hC:cdk k p q t l=cdF k p q t.1.toNat (ccW t) l:=by simp[cdk,hd,hb]
  have hF:=hC.symm.trans h0
  have hk3:iI t.1 t.2 (dW l)=true:=by
   simp only[eY,List.all_cons,List.all_nil,Bool.and_true,Bool.and_eq_true] at hk2
   exact hk2.2.2
  obtain ⟨fr,wd,ht,ht1,ht2,hle,hw00,hw12⟩:=zT hk3 (by
    by_cases h:l.length=0
    . rw[dW,if_pos h];omega
    . obtain⟨a,r,rfl⟩:∃a r,l=a::r:=by
        cases l with
        |nil=>exact(h rfl).elim
        |cons a r=>exact⟨a,r,rfl⟩
      obtain⟨a1,a2⟩:=jU hd a List.mem_cons_self
      have:=oU a1
      omega)
  have e:cdL k p q t l=l.map (cdH k p q fr wd):=by unfold cdL;rw[if_pos h0,ht1,ht2]
  rw[ht1,ht2] at hF
  have hall:=aEB hF
  subst ht
  rw[e,h0]
  exact aA8 k p q fr wd l hk.2 hk.1 hd hk1 hk2 (λc hc=>by
    obtain⟨g1,g2,g3,g4⟩:=hok c hc
    refine⟨g1,g2,?_,g4⟩
    have:=(jU hd c hc).2
    omega) hw00 hw12 hall hS he hvs hargs
 .have e:cdL k p q t l=[]:=by unfold cdL;rw[if_neg h0]
  rw[e]
  exact(aD8 k p q t l hk.2 hk.1 h0).noDk hS he hvs hargs
theorem aD7 (k:Int) (p q t:Int×Int) (l:List (List Int)) (hk:jK l):Fz F.bE [.v (.int .i64 k),.sl 1 (E cC l),.agg (cPf p),.agg (cPf q),.agg (cPf t)] (.tup [.sl 1 (E cC (cdL k p q t l)),.v (.int .i64 (cdk k p q t l))]):=by
 have h:=Vs.Fn.of_dk (Vs.iG.has Cd.i_CalculateDeck_k.o) (args:=[.v (.int .i64 k),.sl 1 (E cC l),.agg (cPf p),.agg (cPf q),.agg (cPf t)]) (by intro y hy;simp only[List.mem_cons,List.not_mem_nil,or_false] at hy;rcases hy with rfl|rfl|rfl|rfl|rfl<;>rfl) (λS w vs hS he hvs hargs=>aAn k p q t l hk hS he hvs hargs)
 rw[deckE] at h
 exact h
theorem aDQ {S:Nat->Prop}{w:World}{k:Nat}{v:Value} (h:RC S w (.v (.slice none 0 0)) v):RC S w (.sl k []) v:=by
 rw[aZ (ρ:=λ_=>none) (κ:=λ_=>0) (h:=λ_=>none) (.clo h)]
 exact .sl k [] none 0 0 0 (λ_=>undef) (by simp) (by simp) (by simp) (by simp) (by simp) ⟨by simp,by decide⟩
theorem aER {f:FuncId}{ys:List AV}{c:Value} (h:Vs.Fn Tryz.prog f [] ys (.tup [.v (.slice none 0 0),.v c]) []):Vs.Fn Tryz.prog f [] ys (.tup [.sl 1 (E cC []),.v c]) []:=
 Vs.Fn.resAs h rfl λS w v hv=>by
  cases hv with
  | tup _ vs hl hr =>
   refine .tup _ vs hl λj hj=>?_
   match j,hj with
   |0,_=>exact aDQ (hr 0 (by simp))
   |1,_=>exact hr 1 (by simp)
theorem aDk (k:Int) (p q t:Int×Int) (l:List (List Int)) (hk:jK l):Fz F.dD [.v (.int .i64 k),.sl 1 (E cC l),.agg (cPf p),.agg (cPf q),.agg (cPf t)] (.tup [.sl 1 (E cC (cdL k p q t l)),.v (.int .i64 (cdk k p q t l))]):=by
 by_cases h0:cdk k p q t l=0
 .have H:=aDl k p q t l hk.2 hk.1 h0
  have e:cdL k p q t l=l.map (cdH k p q t.1.toNat (ccW t)):=by unfold cdL;rw[if_pos h0]
  rw[e,h0]
  exact H
 .have e:cdL k p q t l=[]:=by unfold cdL;rw[if_neg h0]
  rw[e]
  exact aER (aDm k p q t l hk.2 hk.1 h0)
theorem aC6 (k:Int) (p q t:Int×Int) (l:List (List Int)) (hk:jK l):jK (cdL k p q t l):=by
 by_cases h0:cdk k p q t l=0
 .obtain⟨hd,hb⟩:dO l=true∧wE k p q t l=true:=by
   cases h:dO l
   .exact absurd h0 (by simp[cdk,h])
   .cases h2:wE k p q t l
    .exact absurd h0 (by simp[cdk,h,h2])
    .exact⟨rfl,rfl⟩
  obtain⟨hk1,hk2,hok⟩:=x9 hd hb
  have hC:cdk k p q t l=cdF k p q t.1.toNat (ccW t) l:=by simp[cdk,hd,hb]
  have hF:=hC.symm.trans h0
  have hk3:iI t.1 t.2 (dW l)=true:=by
   simp only[eY,List.all_cons,List.all_nil,Bool.and_true,Bool.and_eq_true] at hk2
   exact hk2.2.2
  obtain ⟨fr,wd,ht,ht1,ht2,hle,hw00,hw12⟩:=zT hk3 (by
    by_cases h:l.length=0
    . rw[dW,if_pos h];omega
    . obtain⟨a,r,rfl⟩:∃a r,l=a::r:=by
        cases l with
        |nil=>exact(h rfl).elim
        |cons a r=>exact⟨a,r,rfl⟩
      obtain⟨a1,a2⟩:=jU hd a List.mem_cons_self
      have:=oU a1
      omega)
  have e:cdL k p q t l=l.map (cdH k p q fr wd):=by unfold cdL;rw[if_pos h0,ht1,ht2]
  rw[ht1,ht2] at hF
  have hall:=aEB hF
  subst ht
  rw[e]
  refine⟨by simpa using hk.1,λc hc=>?_⟩
  obtain⟨d,hd1,rfl⟩:=List.mem_map.1 hc
  rw[aCp (by have:=(jU hd d hd1).2;omega)]
  exact hk.2 d hd1
 .have e:cdL k p q t l=[]:=by unfold cdL;rw[if_neg h0]
  rw[e]
  exact⟨by simp,λc hc=>(by cases hc)⟩
def ccB (k:Int) (p q t:Int×Int) (c:List Int):Bool:=inB k 1 4&&eY [p,q,t] c.length
def ccC (k:Int) (p q t:Int×Int) (c:List Int):Int:=if aT c then(if ccB k p q t c then cdC k p q t.1.toNat (ccW t) c else 2) else 1
def ccH (k:Int) (p q t:Int×Int) (c:List Int):List Int:=cdH k p q t.1.toNat (ccW t) c
theorem zJ {k:Int}{p q t:Int×Int}{c:List Int} (hd:aT c=true) (hk:ccB k p q t c=true):inB k 1 4=true∧eY [p,q,t] c.length=true∧okP p.1 p.2 c∧okP q.1 q.2 c∧
  ∃fr w:Nat,t=((fr:Int),((fr+w:Nat):Int))∧t.1.toNat=fr∧ccW t=w∧fr+w<=c.length∧0<w∧w<=12:=by
 simp only[ccB,Bool.and_eq_true] at hk
 have h:=hk.2
 simp only[eY,List.all_cons,List.all_nil,Bool.and_true,Bool.and_eq_true] at h
 obtain⟨h1,h2,h3⟩:=h
 have ht:=kH hd h3
 obtain⟨a1,a2,a3,a4,_,_⟩:=ht
 refine⟨hk.1,hk.2,kH hd h1,kH hd h2,t.1.toNat,ccW t,?_,rfl,rfl,?_,?_,?_⟩
 .obtain⟨t1,t2⟩:=t
  simp only[ccW] at *
  rw[Prod.mk.injEq]
  exact⟨by omega,by omega⟩
 .unfold ccW;omega
 .unfold ccW;omega
 .unfold ccW;omega
set_option maxRecDepth 20000 in
theorem aDp (k:Int) (p q t:Int×Int) (c:List Int) (hc:c.length<=1048576) (h0:ccC k p q t c≠0):Fz F.dE [.v (.int .i64 k),.agg (cC c),.agg (cPf p),.agg (cPf q),.agg (cPf t)] (.tup [.agg [.v (.slice none 0 0)],.v (.int .i64 (ccC k p q t c))]):=by
 have hl3:[p,q,t].length<=1048576:=by simp
 have e2:((2:Int) != 0)=true:=rfl
 cases hd:aT c
 .have hC:ccC k p q t c=1:=by simp[ccC,hd]
  rw[hC]
  refine fn0 Cd.s_CalculateCard_k λX=>?_
  repeat' first|simp -dsimp only[go_sem,cC,cPf,hd]|apply Br.mk<;>intro h<;>try simp -dsimp only[h]|refine aB.c (by first|exact pY c hc|exact fK k|exact aN [p,q,t] (c.length:Int) hl3|exact aN [p,q,((fr:Int),((fr+w:Nat):Int))] (c.length:Int) hl3) ?_|refine aC ?_|refine aC9 ?_|fail
  all_goals exact⟨_,_,rfl,rfl⟩
 .cases hb:ccB k p q t c
  .have hC:ccC k p q t c=2:=by simp[ccC,hd,hb]
   rw[hC]
   cases hk1:inB k 1 4
   .refine fn0 Cd.s_CalculateCard_k λX=>?_
    simp -dsimp only[go_sem,cC,cPf,hd]
    repeat' first|simp -dsimp only[go_sem,cC,cPf,hd,hk1,e2,Bool.false_and]|apply Br.mk<;>intro h<;>try simp -dsimp only[h]|refine aB.c (by first|exact pY c hc|exact fK k|exact aN [p,q,t] (c.length:Int) hl3|exact aN [p,q,((fr:Int),((fr+w:Nat):Int))] (c.length:Int) hl3) ?_|refine aC ?_|refine aC9 ?_|fail
    all_goals exact⟨_,_,rfl,rfl⟩
   .have hk2:eY [p,q,t] c.length=false:=by simpa[ccB,hk1] using hb
    refine fn0 Cd.s_CalculateCard_k λX=>?_
    simp -dsimp only[go_sem,cC,cPf,hd]
    repeat' first|simp -dsimp only[go_sem,cC,cPf,hd,hk1,hk2,e2,Bool.and_false]|apply Br.mk<;>intro h<;>try simp -dsimp only[h]|refine aB.c (by first|exact pY c hc|exact fK k|exact aN [p,q,t] (c.length:Int) hl3|exact aN [p,q,((fr:Int),((fr+w:Nat):Int))] (c.length:Int) hl3) ?_|refine aC ?_|refine aC9 ?_|fail
    all_goals exact⟨_,_,rfl,rfl⟩
  .obtain⟨hk1,hk2,hp,hq,fr,w,ht,ht1,ht2,hf,hw0,hw12⟩:=zJ hd hb
   have hC:ccC k p q t c=cdC k p q fr w c:=by simp[ccC,hd,hb,ht1,ht2]
   rw[hC] at h0⊢
   subst ht
   have hn0:(cdC k p q fr w c != 0)=true:=by simp[h0]
   refine fn0 Cd.s_CalculateCard_k λX=>?_
   simp -dsimp only[go_sem,cC,cPf,hd]
   repeat' first|simp -dsimp only[go_sem,cC,cPf,hd,hk1,hk2,Bool.and_true,hn0]|apply Br.mk<;>intro h<;>try simp -dsimp only[h]|refine aB.c (by first|exact pY c hc|exact fK k|exact aN [p,q,t] (c.length:Int) hl3|exact aN [p,q,((fr:Int),((fr+w:Nat):Int))] (c.length:Int) hl3|exact aAS k p q fr w c hp hq hf hw0 hw12 (oU hd) h0) ?_|refine aC ?_|refine aC9 ?_|fail
   all_goals exact⟨_,_,rfl,rfl⟩
set_option maxRecDepth 20000 in
theorem aDo (k:Int) (p q t:Int×Int) (c:List Int) (hc:c.length<=1048576) (h0:ccC k p q t c=0):Fz F.dE [.v (.int .i64 k),.agg (cC c),.agg (cPf p),.agg (cPf q),.agg (cPf t)] (.tup [.agg (cC (ccH k p q t c)),.v (.int .i64 0)]):=by
 have hl3:[p,q,t].length<=1048576:=by simp
 have hd:aT c=true:=by
  cases h:aT c
  .exact absurd h0 (by simp[ccC,h])
  .rfl
 have hb:ccB k p q t c=true:=by
  cases h:ccB k p q t c
  .exact absurd h0 (by simp[ccC,hd,h])
  .rfl
 obtain⟨hk1,hk2,hp,hq,fr,w,ht,ht1,ht2,hf,hw0,hw12⟩:=zJ hd hb
 have hC:ccC k p q t c=cdC k p q fr w c:=by simp[ccC,hd,hb,ht1,ht2]
 have hH:ccH k p q t c=cdH k p q fr w c:=by simp only[ccH,ht1,ht2]
 rw[hC] at h0
 subst ht
 refine fn0 Cd.s_CalculateCard_k λX=>?_
 simp -dsimp only[go_sem,cC,cPf,hd]
 repeat' first|simp -dsimp only[go_sem,cC,cPf,hd,hk1,hk2,Bool.and_true]|apply Br.mk<;>intro h<;>try simp -dsimp only[h]|refine aB.c (by first|exact pY c hc|exact fK k|exact aN [p,q,t] (c.length:Int) hl3|exact aN [p,q,((fr:Int),((fr+w:Nat):Int))] (c.length:Int) hl3|exact xI k p q fr w c hp hq hf hw0 hw12 (oU hd) h0) ?_|refine aC ?_|refine aC9 ?_|fail
 all_goals(rw[hH];exact⟨_,_,rfl,rfl⟩)
set_option maxRecDepth 20000 in
theorem aEb (k:Int) (p q t:Int×Int) (c:List Int) (hc:c.length<=1048576) (h0:ccC k p q t c≠0):Fz F.dF [.v (.int .i64 k),.agg (cC c),.agg (cPf p),.agg (cPf q),.agg (cPf t)] (.tup [.agg [.v (.slice none 0 0)],.v (.int .i64 (ccC k p q t c))]):=by
 have hl3:[p,q,t].length<=1048576:=by simp
 have e2:((2:Int) != 0)=true:=rfl
 cases hd:aT c
 .have hC:ccC k p q t c=1:=by simp[ccC,hd]
  rw[hC]
  refine fn0 Cd.i_CalculateCard_k λX=>?_
  repeat' first|simp -dsimp only[go_sem,cC,cPf,hd]|apply Br.mk<;>intro h<;>try simp -dsimp only[h]|refine aB.c (by first|exact dV c hc|exact eB c|exact bQ k (c.length:Int) [p,q,t] hl3|exact bQ k (c.length:Int) [p,q,((fr:Int),((fr+w:Nat):Int))] hl3) ?_|refine aC ?_|refine aC9 ?_|fail
  all_goals exact⟨_,_,rfl,rfl⟩
 .cases hb:ccB k p q t c
  .have hC:ccC k p q t c=2:=by simp[ccC,hd,hb]
   rw[hC]
   cases hk1:inB k 1 4
   .refine fn0 Cd.i_CalculateCard_k λX=>?_
    simp -dsimp only[go_sem,cC,cPf,hd]
    repeat' first|simp -dsimp only[go_sem,cC,cPf,hd,hk1,e2,Bool.false_and]|apply Br.mk<;>intro h<;>try simp -dsimp only[h]|refine aB.c (by first|exact dV c hc|exact eB c|exact bQ k (c.length:Int) [p,q,t] hl3|exact bQ k (c.length:Int) [p,q,((fr:Int),((fr+w:Nat):Int))] hl3) ?_|refine aC ?_|refine aC9 ?_|fail
    all_goals exact⟨_,_,rfl,rfl⟩
   .have hk2:eY [p,q,t] c.length=false:=by simpa[ccB,hk1] using hb
    refine fn0 Cd.i_CalculateCard_k λX=>?_
    simp -dsimp only[go_sem,cC,cPf,hd]
    repeat' first|simp -dsimp only[go_sem,cC,cPf,hd,hk1,hk2,e2,Bool.and_false]|apply Br.mk<;>intro h<;>try simp -dsimp only[h]|refine aB.c (by first|exact dV c hc|exact eB c|exact bQ k (c.length:Int) [p,q,t] hl3|exact bQ k (c.length:Int) [p,q,((fr:Int),((fr+w:Nat):Int))] hl3) ?_|refine aC ?_|refine aC9 ?_|fail
    all_goals exact⟨_,_,rfl,rfl⟩
  .obtain⟨hk1,hk2,hp,hq,fr,w,ht,ht1,ht2,hf,hw0,hw12⟩:=zJ hd hb
   have hC:ccC k p q t c=cdC k p q fr w c:=by simp[ccC,hd,hb,ht1,ht2]
   rw[hC] at h0⊢
   subst ht
   have hn0:(cdC k p q fr w c != 0)=true:=by simp[h0]
   refine fn0 Cd.i_CalculateCard_k λX=>?_
   simp -dsimp only[go_sem,cC,cPf,hd]
   repeat' first|simp -dsimp only[go_sem,cC,cPf,hd,hk1,hk2,Bool.and_true,hn0]|apply Br.mk<;>intro h<;>try simp -dsimp only[h]|refine aB.c (by first|exact dV c hc|exact eB c|exact bQ k (c.length:Int) [p,q,t] hl3|exact bQ k (c.length:Int) [p,q,((fr:Int),((fr+w:Nat):Int))] hl3|exact zM k p q fr w c hk1 hp hq hf hw0 hw12 (oU hd) h0) ?_|refine aC ?_|refine aC9 ?_|fail
   all_goals exact⟨_,_,rfl,rfl⟩
set_option maxRecDepth 20000 in
theorem aEa (k:Int) (p q t:Int×Int) (c:List Int) (hc:c.length<=1048576) (h0:ccC k p q t c=0):Fz F.dF [.v (.int .i64 k),.agg (cC c),.agg (cPf p),.agg (cPf q),.agg (cPf t)] (.tup [.agg (cC (ccH k p q t c)),.v (.int .i64 0)]):=by
 have hl3:[p,q,t].length<=1048576:=by simp
 have hd:aT c=true:=by
  cases h:aT c
  .exact absurd h0 (by simp[ccC,h])
  .rfl
 have hb:ccB k p q t c=true:=by
  cases h:ccB k p q t c
  .exact absurd h0 (by simp[ccC,hd,h])
  .rfl
 obtain⟨hk1,hk2,hp,hq,fr,w,ht,ht1,ht2,hf,hw0,hw12⟩:=zJ hd hb
 have hC:ccC k p q t c=cdC k p q fr w c:=by simp[ccC,hd,hb,ht1,ht2]
 have hH:ccH k p q t c=cdH k p q fr w c:=by simp only[ccH,ht1,ht2]
 rw[hC] at h0
 subst ht
 refine fn0 Cd.i_CalculateCard_k λX=>?_
 simp -dsimp only[go_sem,cC,cPf,hd]
 repeat' first|simp -dsimp only[go_sem,cC,cPf,hd,hk1,hk2,Bool.and_true]|apply Br.mk<;>intro h<;>try simp -dsimp only[h]|refine aB.c (by first|exact dV c hc|exact eB c|exact bQ k (c.length:Int) [p,q,t] hl3|exact bQ k (c.length:Int) [p,q,((fr:Int),((fr+w:Nat):Int))] hl3|exact yC k p q fr w c hk1 hp hq hf hw0 hw12 (oU hd) h0) ?_|refine aC ?_|refine aC9 ?_|fail
 all_goals(rw[hH];exact⟨_,_,rfl,rfl⟩)
def ccX (k:Int) (p q t:Int×Int) (c:List Int):List Int:=if ccC k p q t c=0 then ccH k p q t c else[]
theorem aCu {f:FuncId}{ys:List AV}{c:Value} (h:Vs.Fn Tryz.prog f [] ys (.tup [.agg [.v (.slice none 0 0)],.v c]) []):Vs.Fn Tryz.prog f [] ys (.tup [.agg (cC []),.v c]) []:=
 Vs.Fn.resAs h rfl λS w v hv=>by
  cases hv with
  | tup _ vs hl hr =>
   refine .tup _ vs hl λj hj=>?_
   match j,hj with
   | 0,_ =>
    have h0:=hr 0 (by simp)
    generalize vs.getD 0 undef=u at h0⊢
    cases h0 with
    | agg _ us hl2 hr2 =>
     refine .agg _ us hl2 λj hj=>?_
     match j,hj with
     |0,_=>exact aDQ (hr2 0 (by simp))
   |1,_=>exact hr 1 (by simp)
theorem aDn (k:Int) (p q t:Int×Int) (c:List Int) (hc:c.length<=1048576):Fz F.dE [.v (.int .i64 k),.agg (cC c),.agg (cPf p),.agg (cPf q),.agg (cPf t)] (.tup [.agg (cC (ccX k p q t c)),.v (.int .i64 (ccC k p q t c))]):=by
 by_cases h0:ccC k p q t c=0
 .have H:=aDo k p q t c hc h0
  rw[show ccX k p q t c=ccH k p q t c from if_pos h0,h0]
  exact H
 .rw[show ccX k p q t c=[] from if_neg h0]
  exact aCu (aDp k p q t c hc h0)
theorem aD9 (k:Int) (p q t:Int×Int) (c:List Int) (hc:c.length<=1048576):Fz F.dF [.v (.int .i64 k),.agg (cC c),.agg (cPf p),.agg (cPf q),.agg (cPf t)] (.tup [.agg (cC (ccX k p q t c)),.v (.int .i64 (ccC k p q t c))]):=by
 by_cases h0:ccC k p q t c=0
 .have H:=aEa k p q t c hc h0
  rw[show ccX k p q t c=ccH k p q t c from if_pos h0,h0]
  exact H
 .rw[show ccX k p q t c=[] from if_neg h0]
  exact aCu (aEb k p q t c hc h0)
theorem aFp {k:Int}{p q:Int×Int}{c:List Int} (h:(bM k p q c).2.2=0):(aL p.1 p.2 c).2=true∧(aL q.1 q.2 c).2=true∧bM k p q c=cO k (aL p.1 p.2 c).1 (aL q.1 q.2 c).1:=by
 unfold bM at h⊢
 cases h1:(aL p.1 p.2 c).2<;>cases h2:(aL q.1 q.2 c).2<;>simp[h1,h2] at h⊢
theorem aEs {k:Int}{p q:Int×Int}{c:List Int} (hc:c.length<=1048576) (hk:inB k 1 4=true) (hd:aT c=true) (hp:okP p.1 p.2 c) (hq:okP q.1 q.2 c) (h:(bM k p q c).2.2=0):∃n m r:Int,Fz F.bD [.agg (cC c),.agg (cPf p)] (.tup [.v (.int .i64 n),.v (.int .i64 0)])∧Fz F.bD [.agg (cC c),.agg (cPf q)] (.tup [.v (.int .i64 m),.v (.int .i64 0)])∧Fz F.dN [.v (.int .i64 k),.v (.int .i64 n),.v (.int .i64 m)] (.tup [.v (.int .i64 r),.v (.int .i64 (bM k p q c).2.1),.v (.int .i64 0)])∧r=(bM k p q c).1:=by
 obtain⟨h1,h2,h3⟩:=aFp h
 refine⟨_,_,_,mK c hc p hd hp h1,mK c hc q hd hq h2,?_,rfl⟩
 have H:=zL k (aL p.1 p.2 c).1 (aL q.1 q.2 c).1 hk
 rw[←h3] at H
 unfold cT3 at H
 rw[h] at H
 exact H
theorem aGs {k:Int}{p q t:Int×Int}{c:List Int} (hc:c.length<=1048576) (h0:ccC k p q t c=0):∃n m r u:Int,Fz F.bD [.agg (cC c),.agg (cPf p)] (.tup [.v (.int .i64 n),.v (.int .i64 0)])∧Fz F.bD [.agg (cC c),.agg (cPf q)] (.tup [.v (.int .i64 m),.v (.int .i64 0)])∧Fz F.dN [.v (.int .i64 k),.v (.int .i64 n),.v (.int .i64 m)] (.tup [.v (.int .i64 r),.v (.int .i64 u),.v (.int .i64 0)])∧
  Fz F.bD [.agg (cC (ccX k p q t c)),.agg (cPf t)] (.tup [.v (.int .i64 r),.v (.int .i64 0)]):=by
 have hd:aT c=true:=by
  cases h:aT c
  .exact absurd h0 (by simp[ccC,h])
  .rfl
 have hb:ccB k p q t c=true:=by
  cases h:ccB k p q t c
  .exact absurd h0 (by simp[ccC,hd,h])
  .rfl
 obtain⟨hk1,hk2,hp,hq,fr,w,ht,ht1,ht2,hf,hw0,hw12⟩:=zJ hd hb
 have hC:ccC k p q t c=cdC k p q fr w c:=by simp[ccC,hd,hb,ht1,ht2]
 have hH:ccX k p q t c=cdH k p q fr w c:=by simp only[ccX,if_pos h0,ccH,ht1,ht2]
 rw[hC] at h0
 have hr:=(qK h0).1
 obtain⟨n,m,r,N1,N2,CA,hrr⟩:=aEs hc hk1 hd hp hq hr
 have hx:=aEz (k:=k) (p:=p) (q:=q) (w:=w) hf hd
 have hback:=aEA hw0 hw12 hf h0
 have hl:(cdH k p q fr w c).length=c.length:=jZ hf (mF w _)
 have hok:okP ((fr:Int)) (((fr+w:Nat):Int)) (cdH k p q fr w c):=by
  refine⟨by omega,by omega,by rw[hl];omega,by omega,by rw[hl];exact oU hd,λx hx2=>?_⟩
  have h:=hx
  simp only[aT,inB,Bool.and_eq_true,List.all_eq_true,decide_eq_true_eq] at h
  exact h.1 x hx2
 refine⟨n,m,r,_,N1,N2,CA,?_⟩
 subst ht
 rw[hH]
 have N3:=mK (cdH k p q fr w c) (by rw[hl];exact hc) ((fr:Int),((fr+w:Nat):Int)) hx hok (by rw[hback])
 rw[hback,←hrr] at N3
 exact N3
theorem aGm {k:Int}{p q:Int×Int}{l:List (List Int)} (h:(cyT k p q l).2=0):inB k 1 4=true∧cyG k p q l 0=((cyT k p q l).1,0)∧∀c,c∈l->aT c=true∧okP p.1 p.2 c∧okP q.1 q.2 c:=by
 unfold cyT at h⊢
 cases hd:dO l
 .rw[hd] at h;simp at h
 .cases hb:cyB k p q l
  .rw[hd,hb] at h;simp at h
  .rw[hd,hb] at h
   simp only[if_true] at h⊢
   refine⟨aEt hb,Prod.ext rfl h,λc hc=>⟨(jU hd c hc).1,(aCk hd hb c hc).1,(aCk hd hb c hc).2⟩⟩
theorem yO (l m:List Int) (hl:l.length<=1048576):Fz F.l9 [.agg [.sl 1 (E cI l)],.agg [.sl 1 (E cI m)]] (.v (.bool (qC l m))):=by
 refine fn0 Cd.s_SameCard_k λX=>?_
 repeat' first|simp -dsimp only[go_sem]|apply Br.mk<;>intro h<;>try simp -dsimp only[h]|refine aB.c (by first|exact aCe l m hl) ?_|refine aC ?_|refine aC9 ?_|fail
 all_goals(simp_all)
end
section
variable [Vs.Tab 0 Vs.powP]
attribute [local irreducible] Vs.Fn nxV nxS pkV pkS ptN dtF kQ hoF hoR cfT cyT cyG cdL cdk ccX ccC bM cO
theorem f6big (l:List Int) (hl:l.length<=9223372036854775807):Fz F.uA [.sl 1 (E cU l)] (.v (.bool (decide ((l.length:Int)>4096)))):=by
 have hlE:(E cU l).length=l.length:=aJ _
 refine fn0 Cd.l_f6big_k λX=>?_
 repeat' first|simp -dsimp only[go_sem,hlE,Int.reduceBEq,Int.reduceBNe,cC,aJ,List.replicate_succ,List.replicate_zero,List.flatten_cons,List.flatten_nil,List.cons_append,List.nil_append,List.set_cons_zero,List.set_cons_succ,List.length_cons,List.length_nil,List.length_set,List.mem_singleton,List.mem_cons,List.not_mem_nil,or_false,false_or,Vs.Name.t.injEq,List.getD_cons_zero,List.getD_cons_succ,bW,bX,eF,sB,List.append_nil,List.flatMap_cons,List.flatMap_nil,cPf,cFd,List.getElem?_cons_zero,List.getElem?_cons_succ,bne_self_eq_false,beq_self_eq_true,Bool.and_self,Bool.not_true,Bool.not_false,Bool.or_self,Bool.or_false,Bool.false_or]|apply Br.mk<;>intro h<;>try simp -dsimp only[h]|refine aC ?_|refine aC9 ?_|fail
 all_goals first|omega|exact⟨_,_,rfl,rfl⟩
theorem aBX (c:List Int):qC c c=true:=uX λx _=>by simp[qI]
theorem aFo {k:Int}{p q t:Int×Int}{c:List Int} (hc:c.length<=100):(ccX k p q t c).length<=1048576:=by
 unfold ccX
 split
 .rename_i h
  have hd:aT c=true:=by
   cases h2:aT c
   .exact absurd h (by simp[ccC,h2])
   .rfl
  have hb:ccB k p q t c=true:=by
   cases h2:ccB k p q t c
   .exact absurd h (by simp[ccC,hd,h2])
   .rfl
  obtain⟨_,_,_,_,fr,w,ht,ht1,ht2,hf,hw0,hw12⟩:=zJ hd hb
  simp only[ccH,ht1,ht2]
  have:(cdH k p q fr w c).length=c.length:=jZ hf (mF w _)
  omega
 .simp
theorem aGr (c:List Int) (p m:List (Int×Int)):-6000000000000<=(cfT c p m).1∧(cfT c p m).1<=6000000000000:=by
 unfold cfT
 cases hd:aT c
 .simp
 .cases hk:cfK c p m
  .simp
  .obtain⟨h1,h2,h3⟩:=aEw hd hk
   have g1:=qJ h2
   have g2:=qJ h3
   cases(cfB c p&&cfB c m)
   .simp
   .show -6000000000000<=cfS c p-cfS c m∧cfS c p-cfS c m<=6000000000000
    omega
theorem aE4 (d:List (List Int)):qD d d=true:=uX λx _=>aBX x
attribute [local go_sem] Int.reduceBEq Int.reduceBNe cC aJ List.replicate_succ List.replicate_zero List.flatten_cons List.flatten_nil List.cons_append List.nil_append List.set_cons_zero List.set_cons_succ List.length_cons List.length_nil List.length_set List.mem_singleton List.mem_cons List.not_mem_nil or_false false_or Vs.Name.t.injEq List.getD_cons_zero List.getD_cons_succ bW bX eF sB List.append_nil List.flatMap_cons List.flatMap_nil cPf cFd List.getElem?_cons_zero List.getElem?_cons_succ bne_self_eq_false beq_self_eq_true Bool.and_self Bool.not_true Bool.not_false Bool.or_self Bool.or_false Bool.false_or in
set_option maxRecDepth 20000 in
theorem law_FnCalculated (l:List Int) (hl:∀x,x∈l->0<=x∧x<=255) (hl0:l.length<2 ^ 63):Fz F.l_FnCalculated [.sl 1 (E cU l)] (.v (.bool true)):=by
 have F6:=f6big l (by omega)
 cases hb:decide ((l.length:Int)>4096)
 rotate_left
 .rw[hb] at F6
  refine fn0 Cd.l_FnCalculated_k λX=>?_
  repeat' first|simp -dsimp only[go_sem]|apply Br.mk<;>intro h<;>try simp -dsimp only[h]|refine aB.c (by first|exact F6) ?_|refine aC ?_|refine aC9 ?_|fail
  all_goals first|omega|exact⟨_,_,rfl,rfl⟩|(refine fT ?_;simp_all;done)
 rw[hb] at F6
 have hlB:byt l:=⟨by have:=of_decide_eq_false hb;omega,hl⟩
 obtain⟨k1,c,a0,a1,b0,b1,t0,t1,hc,D1⟩:=aAh l hlB
 obtain⟨k2,d,c0,c1,d0,d1,e0,e1,hd,D2⟩:=aAg l hlB
 obtain⟨k3,L,g0,g1,h0,h1,hL,D3⟩:=aBA l hlB
 obtain⟨cc,p,m,hcc,hp,hm,D4⟩:=aC0 l hlB
 have CC1:=aD9 k1 (a0,a1) (b0,b1) (t0,t1) c (by omega)
 have CC2:=aDn k1 (a0,a1) (b0,b1) (t0,t1) c (by omega)
 have CD1:=aD7 k2 (c0,c1) (d0,d1) (e0,e1) d hd
 have CD2:=aDk k2 (c0,c1) (d0,d1) (e0,e1) d hd
 have CY1:=uB k3 L (g0,g1) (h0,h1) hL.2 hL.1
 have CY2:=sO k3 L (g0,g1) (h0,h1) hL.2 hL.1
 have CF1:=qB aFM cc (by omega) p m (by omega) (by omega)
 have CF2:=wT cc (by omega) p m (by omega) (by omega)
 have CF3:=qB aFM cc (by omega) m p (by omega) (by omega)
 have hsw:=@aEx _ cc p m
 have hsb:=aGr cc p m
 have hct:=@aGs _ k1 (a0,a1) (b0,b1) (t0,t1) c (by omega)
 have hcyt:=@aGm _ k3 (g0,g1) (h0,h1) L
 have hDs:=aC6 k2 (c0,c1) (d0,d1) (e0,e1) d hd
 have hXs:(ccX k1 (a0,a1) (b0,b1) (t0,t1) c).length<=1048576:=aFo hc
 have SC:=yO (ccX k1 (a0,a1) (b0,b1) (t0,t1) c) (ccX k1 (a0,a1) (b0,b1) (t0,t1) c) hXs
 have SD:=yN (cdL k2 (c0,c1) (d0,d1) (e0,e1) d) (cdL k2 (c0,c1) (d0,d1) (e0,e1) d) hDs
 rw[aBX] at SC
 rw[aE4] at SD
 have qX:True:=trivial
 have qY:True:=trivial
 have hLE:(E cC L).length=L.length:=aJ _
 have hs:=hL.2
 have hLn:=hL.1
 generalize ccX k1 (a0,a1) (b0,b1) (t0,t1) c=X1 at *
 generalize ccC k1 (a0,a1) (b0,b1) (t0,t1) c=E1 at *
 generalize cdL k2 (c0,c1) (d0,d1) (e0,e1) d=X2 at *
 generalize cdk k2 (c0,c1) (d0,d1) (e0,e1) d=E2 at *
 generalize cfT cc m p=S2 at *
 generalize cfT cc p m=S1 at *
 generalize cyT k3 (g0,g1) (h0,h1) L=Y1 at *
 obtain⟨s1,s2⟩:=S1
 obtain⟨u1,u2⟩:=S2
 obtain⟨cyS,cyC⟩:=Y1
 dsimp only at CF1 CF2 CF3 CY1 CY2 hsw hcyt hsb
 have hwn:IntKind.i64.wrap (-s1)=-s1:=aG (by omega) (by omega)
 have hwn0:IntKind.i64.wrap (0-s1)=-s1:=by rw[aG (by omega) (by omega)];omega
 obtain⟨b5,e5⟩:∃b,(s2==0)=b:=⟨_,rfl⟩
 obtain⟨b3,e3⟩:∃b,(cyC==0)=b:=⟨_,rfl⟩
 obtain⟨bb,eb⟩:∃b,(E1 != 0)=b:=⟨_,rfl⟩
 replace CF3:b5=true->Fz F.gJ [.agg (cC cc),.sl 2 (E cPf m),.sl 2 (E cPf p)] (.tup [.v (.int .i64 (-s1)),.v (.int .i64 0)]):=λh=>by
  have e:=hsw (eq_of_beq (e5.trans h))
  rw[Prod.mk.injEq] at e
  rw[e.1,e.2] at CF3
  exact CF3
 obtain ⟨n1,n2,n3,n4,hN⟩:∃n m r u:Int,bb=false->Fz F.bD [.agg (cC c),.agg (cPf (a0,a1))] (.tup [.v (.int .i64 n),.v (.int .i64 0)])∧Fz F.bD [.agg (cC c),.agg (cPf (b0,b1))] (.tup [.v (.int .i64 m),.v (.int .i64 0)])∧Fz F.dN [.v (.int .i64 k1),.v (.int .i64 n),.v (.int .i64 m)] (.tup [.v (.int .i64 r),.v (.int .i64 u),.v (.int .i64 0)])∧Fz F.bD [.agg (cC X1),.agg (cPf (t0,t1))] (.tup [.v (.int .i64 r),.v (.int .i64 0)]):=by
  cases bb
  .have hE:E1=0:=by simpa using eb
   obtain⟨n,m,r,u,h⟩:=hct hE
   exact⟨n,m,r,u,λ_=>h⟩
  .exact⟨0,0,0,0,λh=>by cases h⟩
 have N1:=λh=>(hN h).1
 have N2:=λh=>(hN h).2.1
 have N3:=λh=>(hN h).2.2.1
 have N4:=λh=>(hN h).2.2.2
 clear hN hct hsw
 refine fn0 Cd.l_FnCalculated_k λX=>?_
 repeat' first|simp -dsimp only[go_sem,e3,e5,eb,hwn,hwn0,hLE]|apply Br.mk<;>intro h<;>try simp -dsimp only[h]|refine aB.c (by first|exact F6|exact D1|exact CC1|exact CC2|exact D2|exact CD1|exact CD2|exact D3|exact CY1|exact CY2|exact D4|exact CF1|exact CF2|exact SC|exact SD|exact CF3 (by assumption)|exact N1 (by assumption)|exact N2 (by assumption)|exact N3 (by assumption)|exact N4 (by assumption)) ?_|refine aC ?_|refine aC9 ?_|fail
 all_goals try(first|(refine fT rfl;done)|exact⟨_,_,rfl,rfl⟩)
 all_goals
  have h3:b3=true:=by assumption
  have hcy0:cyC=0:=eq_of_beq (e3.trans h3)
  obtain⟨hk3,hcy,hall⟩:=hcyt hcy0
  refine bA.at dM (X:={zz:Nat×(Int) // zz.1<=L.length∧cyG k3 (g0,g1) (h0,h1) (L.drop zz.1) zz.2=(cyS,0)}) (λzz=>[(38,.v (.int .i64 zz.1.2)),(39,.v (.int .i64 zz.1.1))]) (λzz=>[]) (λzz=>L.length-zz.1.1) ⟨(0,0),by omega,by rw[List.drop_zero];exact hcy⟩ ?_ ?_
  .exact le0
  .rintro⟨⟨i,a⟩,hi,hg⟩
   dsimp only at hi hg
   simp -dsimp only[go_sem,hLE]
   refine Br.mk (λhc=>?_) λhc=>?_
   .have hlt:i<L.length:=Dq
    have hw:=aQ hlt (by omega)
    have hx:=hall L[i] (List.getElem_mem hlt)
    have hm2:(E cC L).getD i []=[.sl 1 (E cI L[i])]:=bI hlt
    rw[List.drop_eq_getElem_cons hlt,cyG] at hg
    by_cases hz:(bM k3 (g0,g1) (h0,h1) L[i]).2.2=0
    rotate_left
    .rw[if_neg hz] at hg
     exact absurd (congrArg Prod.snd hg) hz
    .rw[if_pos hz] at hg
     obtain⟨n9,m9,r9,N7,N8,C9,_⟩:=aEs (hs L[i] (List.getElem_mem hlt)) hk3 hx.1 hx.2.1 hx.2.2 hz
     generalize(bM k3 (g0,g1) (h0,h1) L[i]).2.1=tu at *
     have hwt:IntKind.i64.wrap (a+tu)=W (a+tu):=rfl
     repeat' first|simp -dsimp only[go_sem,hm2,hw,hLE]|apply Br.mk<;>intro h<;>try simp -dsimp only[h]|refine aB.c (by first|exact N7|exact N8|exact C9) ?_|refine aC ?_|refine aC9 ?_|fail
     all_goals first|omega|(exact nx (i+1,W (a+tu)) hg)
   .have hge:i=L.length:=by
     have:¬i<L.length:=Dq
     omega
    subst hge
    simp -dsimp only[go_sem,hLE]
    rw[List.drop_length,cyG] at hg
    obtain rfl:a=cyS:=congrArg Prod.fst hg
    repeat' first|simp -dsimp only[go_sem,e3,e5,eb,hwn,hwn0,hLE]|apply Br.mk<;>intro h<;>try simp -dsimp only[h]|refine aB.c (by first|exact N1 (by assumption)|exact N2 (by assumption)|exact N3 (by assumption)|exact N4 (by assumption)) ?_|refine And.intro ?_ (λh=>absurd rfl h)|refine aC ?_|refine aC9 ?_|fail
    all_goals first|omega|exact⟨_,_,rfl,rfl⟩|exact⟨⟨_,_,rfl,rfl⟩,λh=>absurd rfl h⟩|(simp at h;done)
end
end Go.Proofs.YtfoddghhlagenaaGreatDoor
