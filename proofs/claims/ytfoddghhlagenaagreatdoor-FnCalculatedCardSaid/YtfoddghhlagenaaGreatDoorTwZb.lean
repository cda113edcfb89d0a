/- The cycles of a deck. -/
import Derived.Test.YtfoddghhlagenaaGreatDoorVsD
import Derived.Test.YtfoddghhlagenaaGreatDoorTwTa
import Derived.Test.YtfoddghhlagenaaGreatDoorTuB
set_option linter.all false
set_option maxHeartbeats 8000000
namespace Go.Proofs.YtfoddghhlagenaaGreatDoor
open Go.Vs
variable [Vs.Tab 0 Vs.powP]
attribute [local irreducible] Vs.Fn
def cyG (k:Int) (p q:Int×Int):List (List Int)->Int->Int×Int
 | [],s=>(s,0)
 |c::r,s=>if(bM k p q c).2.2=0 then cyG k p q r (W (s+(bM k p q c).2.1)) else(0,(bM k p q c).2.2)
def cyB (k:Int) (p q:Int×Int) (l:List (List Int)):Bool:=inB k 1 4&&eY [p,q] (dW l)
def cyT (k:Int) (p q:Int×Int) (l:List (List Int)):Int×Int:=
 if dO l then(if cyB k p q l then cyG k p q l 0 else(0,2)) else(0,1)
theorem aEt {k:Int}{p q:Int×Int}{l:List (List Int)} (h:cyB k p q l=true):inB k 1 4=true:=by
 simp only[cyB,Bool.and_eq_true] at h;exact h.1
theorem aEu {k:Int}{p q:Int×Int}{l:List (List Int)} (h:cyB k p q l=true):eY [p,q] (dW l)=true:=by
 simp only[cyB,Bool.and_eq_true] at h;exact h.2
theorem aB4 {l:List (List Int)}{fr to:Int} (hd:dO l=true) (hn:iI fr to (dW l)=true):∀c,c∈l->okP fr to c:=by
 intro c hc
 simp only[dO,Bool.and_eq_true,List.all_eq_true,decide_eq_true_eq] at hd
 simp only[iI,sG,Bool.and_eq_true,decide_eq_true_eq] at hn
 obtain⟨hcb,hcl⟩:=hd.1 c hc
 simp only[aT,inB,Bool.and_eq_true,List.all_eq_true,decide_eq_true_eq] at hcb
 have h0:l.length≠0:=by intro e;rw[List.eq_nil_of_length_eq_zero e] at hc;cases hc
 rw[dW,if_neg h0,←hcl] at hn
 obtain⟨⟨h1,h2,h3⟩,h4⟩:=hn
 obtain⟨h5,h6,h7⟩:=hcb
 have hw:W (to-fr)=to-fr:=aG (by omega) (by omega)
 rw[hw] at h4
 exact⟨h1,h2,h3,h4,by omega,λx hx=>h5 x hx⟩
theorem aCk {k:Int}{p q:Int×Int}{l:List (List Int)} (hd:dO l=true) (hk:cyB k p q l=true):∀c,c∈l->okP p.1 p.2 c∧okP q.1 q.2 c:=by
 have h:=aEu hk
 simp only[eY,List.all_cons,List.all_nil,Bool.and_true,Bool.and_eq_true] at h
 exact λc hc=>⟨aB4 hd h.1 c hc,aB4 hd h.2 c hc⟩
attribute [local go_sem] List.replicate_succ List.replicate_zero List.flatten_cons List.flatten_nil List.cons_append List.nil_append List.set_cons_zero List.set_cons_succ List.length_cons List.length_nil List.length_set in
theorem sO (k:Int) (l:List (List Int)) (p q:Int×Int) (hs:∀x,x∈l->x.length<=1048576) (hl:l.length<=1048576):Fz F.fQ [.v (.int .i64 k),.sl 1 (E cC l),.agg (cPf p),.agg (cPf q)] (.tup [.v (.int .i64 (cyT k p q l).1),.v (.int .i64 (cyT k p q l).2)]):=by
 have hl2:[p,q].length<=1048576:=by simp
 have e2:((2:Int) != 0)=true:=rfl
 cases hd:dO l
 .refine fn0 Cd.s_CyclesOfDeck_k λX=>?_
  repeat' first|simp -dsimp only[go_sem,cC,cPf,cFd,hd]|apply Br.mk<;>intro h<;>try simp -dsimp only[h]|refine aB.c (by first|exact kZ l hs hl|exact jC l|exact fK k|exact aN [p,q] (dW l) hl2) ?_|refine aC ?_|refine aC9 ?_|fail
  all_goals simp[cyT,hd]
 .cases hk:cyB k p q l
  .refine fn0 Cd.s_CyclesOfDeck_k λX=>?_
   simp -dsimp only[go_sem,cC,cPf,cFd,hd,hk]
   cases hk1:inB k 1 4
   .have hk0:(inB k 1 4&&eY [p,q] (dW l))=false:=by simp[hk1]
    repeat' first|simp -dsimp only[go_sem,cC,cPf,cFd,hd,hk1,e2]|apply Br.mk<;>intro h<;>try simp -dsimp only[h]|refine aB.c (by first|exact kZ l hs hl|exact jC l|exact fK k|exact aN [p,q] (dW l) hl2) ?_|refine aC ?_|refine aC9 ?_|fail
    all_goals simp[cyT,hd,hk]
   .have hk2:eY [p,q] (dW l)=false:=by simpa[cyB,hk1] using hk
    repeat' first|simp -dsimp only[go_sem,cC,cPf,cFd,hd,hk1,hk2,e2]|apply Br.mk<;>intro h<;>try simp -dsimp only[h]|refine aB.c (by first|exact kZ l hs hl|exact jC l|exact fK k|exact aN [p,q] (dW l) hl2) ?_|refine aC ?_|refine aC9 ?_|fail
    all_goals simp[cyT,hd,hk]
  .have hk1:=aEt hk
   have hk2:=aEu hk
   have hok:=aCk hd hk
   have hT:cyT k p q l=cyG k p q l 0:=by simp[cyT,hd,hk]
   rw[hT]
   refine fn0 Cd.s_CyclesOfDeck_k λX=>?_
   simp -dsimp only[go_sem,cC,cPf,cFd,hd]
   repeat' first|simp -dsimp only[go_sem,cC,cPf,cFd,hd,hk1,hk2]|apply Br.mk<;>intro h<;>try simp -dsimp only[h]|refine aB.c (by first|exact kZ l hs hl|exact jC l|exact fK k|exact aN [p,q] (dW l) hl2) ?_|refine aC ?_|refine aC9 ?_|fail
   refine bA.at dM (X:={zz:Nat×(Int) // zz.1<=l.length∧cyG k p q (l.drop zz.1) zz.2=cyG k p q l 0}) (λzz=>[(10,.v (.int .i64 zz.1.2)),(11,.v (.int .i64 zz.1.1))]) (λzz=>[]) (λzz=>l.length-zz.1.1) ⟨(0,0),by omega,by simp⟩ ?_ ?_
   .exact le0
   .rintro⟨⟨i,a⟩,hi,hg⟩
    dsimp only at hi hg
    simp -dsimp only[go_sem]
    refine Br.mk (λhc=>?_) λhc=>?_
    .have hlt:i<l.length:=Dq
     have hw:=aQ hlt hl
     obtain⟨hp,hq⟩:=hok l[i] (List.getElem_mem hlt)
     have hm:(E cC l).getD i []=[.sl 1 (E cI l[i])]:=bI hlt
     rw[List.drop_eq_getElem_cons hlt,cyG] at hg
     cases hb:(aL p.1 p.2 l[i]).2&&(aL q.1 q.2 l[i]).2
     .have er:rdT p q l[i]=(0,0,8):=by simp[rdT,hb]
      have ec:bM k p q l[i]=(0,0,8):=by simp[bM,hb]
      rw[ec,if_neg (by decide)] at hg
      have e8:((8:Int) != 0)=true:=rfl
      repeat' first|simp -dsimp only[go_sem,hm,hw,er,e8,cT3,cC,cPf,cFd]|apply Br.mk<;>intro h<;>try simp -dsimp only[h]|refine aB.c (by first|exact mW p q l[i] hp hq) ?_|refine aC ?_|refine aC9 ?_|fail
      all_goals simp[←hg]
     .have er:rdT p q l[i]=((aL p.1 p.2 l[i]).1,(aL q.1 q.2 l[i]).1,0):=by simp[rdT,hb]
      have ec:bM k p q l[i]=cO k (aL p.1 p.2 l[i]).1 (aL q.1 q.2 l[i]).1:=by simp[bM,hb]
      rw[ec] at hg
      by_cases hz:(cO k (aL p.1 p.2 l[i]).1 (aL q.1 q.2 l[i]).1).2.2=0
      .have ez:((cO k (aL p.1 p.2 l[i]).1 (aL q.1 q.2 l[i]).1).2.2 != 0)=false:=by simp[hz]
       rw[if_pos hz] at hg
       repeat' first|simp -dsimp only[go_sem,hm,hw,ez,cT3,cC,cPf,cFd,er]|apply Br.mk<;>intro h<;>try simp -dsimp only[h]|refine aB.c (by first|exact mW p q l[i] hp hq|exact xH k _ _) ?_|refine aC ?_|refine aC9 ?_|fail
       all_goals(exact nx (i+1,W (a+(cO k (aL p.1 p.2 l[i]).1 (aL q.1 q.2 l[i]).1).2.1)) hg)
      .have ez:((cO k (aL p.1 p.2 l[i]).1 (aL q.1 q.2 l[i]).1).2.2 != 0)=true:=by simp[hz]
       rw[if_neg hz] at hg
       repeat' first|simp -dsimp only[go_sem,hm,hw,ez,cT3,cC,cPf,cFd,er]|apply Br.mk<;>intro h<;>try simp -dsimp only[h]|refine aB.c (by first|exact mW p q l[i] hp hq|exact xH k _ _) ?_|refine aC ?_|refine aC9 ?_|fail
       all_goals simp[←hg]
    .have hge:i=l.length:=by
      have:¬i<l.length:=Dq
      omega
     subst hge
     simp -dsimp only[go_sem]
     rw[List.drop_length,cyG] at hg
     simp[←hg]
attribute [local go_sem] List.replicate_succ List.replicate_zero List.flatten_cons List.flatten_nil List.cons_append List.nil_append List.set_cons_zero List.set_cons_succ List.length_cons List.length_nil List.length_set in
theorem uB (k:Int) (l:List (List Int)) (p q:Int×Int) (hs:∀x,x∈l->x.length<=1048576) (hl:l.length<=1048576):Fz F.gI [.v (.int .i64 k),.sl 1 (E cC l),.agg (cPf p),.agg (cPf q)] (.tup [.v (.int .i64 (cyT k p q l).1),.v (.int .i64 (cyT k p q l).2)]):=by
 have hl2:[p,q].length<=1048576:=by simp
 have e2:((2:Int) != 0)=true:=rfl
 cases hd:dO l
 .refine fn0 Cd.i_CyclesOfDeck_k λX=>?_
  repeat' first|simp -dsimp only[go_sem,cC,cPf,cFd,hd]|apply Br.mk<;>intro h<;>try simp -dsimp only[h]|refine aB.c (by first|exact iP l hs hl|exact eQ l|exact bQ k (dW l) [p,q] hl2) ?_|refine aC ?_|refine aC9 ?_|fail
  all_goals simp[cyT,hd]
 .cases hk:cyB k p q l
  .refine fn0 Cd.i_CyclesOfDeck_k λX=>?_
   simp -dsimp only[go_sem,cC,cPf,cFd,hd,hk]
   cases hk1:inB k 1 4
   .have hk0:(inB k 1 4&&eY [p,q] (dW l))=false:=by simp[hk1]
    repeat' first|simp -dsimp only[go_sem,cC,cPf,cFd,hd,hk1,e2]|apply Br.mk<;>intro h<;>try simp -dsimp only[h]|refine aB.c (by first|exact iP l hs hl|exact eQ l|exact bQ k (dW l) [p,q] hl2) ?_|refine aC ?_|refine aC9 ?_|fail
    all_goals simp[cyT,hd,hk]
   .have hk2:eY [p,q] (dW l)=false:=by simpa[cyB,hk1] using hk
    repeat' first|simp -dsimp only[go_sem,cC,cPf,cFd,hd,hk1,hk2,e2]|apply Br.mk<;>intro h<;>try simp -dsimp only[h]|refine aB.c (by first|exact iP l hs hl|exact eQ l|exact bQ k (dW l) [p,q] hl2) ?_|refine aC ?_|refine aC9 ?_|fail
    all_goals simp[cyT,hd,hk]
  .have hk1:=aEt hk
   have hk2:=aEu hk
   have hok:=aCk hd hk
   have hT:cyT k p q l=cyG k p q l 0:=by simp[cyT,hd,hk]
   rw[hT]
   refine fn0 Cd.i_CyclesOfDeck_k λX=>?_
   simp -dsimp only[go_sem,cC,cPf,cFd,hd]
   repeat' first|simp -dsimp only[go_sem,cC,cPf,cFd,hd,hk1,hk2]|apply Br.mk<;>intro h<;>try simp -dsimp only[h]|refine aB.c (by first|exact iP l hs hl|exact eQ l|exact bQ k (dW l) [p,q] hl2) ?_|refine aC ?_|refine aC9 ?_|fail
   refine bA.at dM (X:={zz:Nat×(Int) // zz.1<=l.length∧cyG k p q (l.drop zz.1) zz.2=cyG k p q l 0}) (λzz=>[(11,.v (.int .i64 zz.1.2)),(32,.v (.int .i64 zz.1.1))]) (λzz=>[]) (λzz=>l.length-zz.1.1) ⟨(0,0),by omega,by simp⟩ ?_ ?_
   .exact le0
   .rintro⟨⟨i,a⟩,hi,hg⟩
    dsimp only at hi hg
    simp -dsimp only[go_sem]
    refine Br.mk (λhc=>?_) λhc=>?_
    .have hlt:i<l.length:=Dq
     have hw:=aQ hlt hl
     obtain⟨hp,hq⟩:=hok l[i] (List.getElem_mem hlt)
     have hm:(E cC l).getD i []=[.sl 1 (E cI l[i])]:=bI hlt
     rw[List.drop_eq_getElem_cons hlt,cyG] at hg
     by_cases hz:(bM k p q l[i]).2.2=0
     .have ez:((bM k p q l[i]).2.2 != 0)=false:=by simp[hz]
      rw[if_pos hz] at hg
      repeat' first|simp -dsimp only[go_sem,hm,hw,ez,cT3,cC,cPf,cFd]|apply Br.mk<;>intro h<;>try simp -dsimp only[h]|refine aB.c (by first|exact iN k hk1 p q l[i] hp hq) ?_|refine aC ?_|refine aC9 ?_|fail
      all_goals(exact nx (i+1,W (a+(bM k p q l[i]).2.1)) hg)
     .have ez:((bM k p q l[i]).2.2 != 0)=true:=by simp[hz]
      rw[if_neg hz] at hg
      repeat' first|simp -dsimp only[go_sem,hm,hw,ez,cT3,cC,cPf,cFd]|apply Br.mk<;>intro h<;>try simp -dsimp only[h]|refine aB.c (by first|exact iN k hk1 p q l[i] hp hq) ?_|refine aC ?_|refine aC9 ?_|fail
      all_goals simp[←hg]
    .have hge:i=l.length:=by
      have:¬i<l.length:=Dq
      omega
     subst hge
     simp -dsimp only[go_sem]
     rw[List.drop_length,cyG] at hg
     simp[←hg]
end Go.Proofs.YtfoddghhlagenaaGreatDoor
