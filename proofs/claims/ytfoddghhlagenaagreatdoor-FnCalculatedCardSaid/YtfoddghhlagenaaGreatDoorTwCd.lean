/- CalculateDeck, as the program does it, where it fails. -/
import Derived.Test.YtfoddghhlagenaaGreatDoorVsD
import Derived.Test.YtfoddghhlagenaaGreatDoorTwTa
import Derived.Test.YtfoddghhlagenaaGreatDoorTwY
set_option linter.all false
set_option maxHeartbeats 8000000
namespace Go.Proofs.YtfoddghhlagenaaGreatDoor
open Go.Vs
section
variable [Vs.Tab 0 Vs.powP]
attribute [local irreducible] Vs.Fn
attribute [local go_sem] Int.reduceBEq Int.reduceBNe cFd cT3 List.mem_singleton Name.t.injEq false_and Blk.row List.replicate_succ List.replicate_zero List.flatten_cons List.flatten_nil List.cons_append List.nil_append List.set_cons_zero List.set_cons_succ List.length_cons List.length_nil List.length_set aJ in
set_option maxRecDepth 20000 in
theorem aDm (k:Int) (p q t:Int×Int) (l:List (List Int)) (hs:∀x,x∈l->x.length<=1048576) (hl:l.length<=1048576) (h0:cdk k p q t l≠0):Fz F.dD [.v (.int .i64 k),.sl 1 (E cC l),.agg (cPf p),.agg (cPf q),.agg (cPf t)] (.tup [.v (.slice none 0 0),.v (.int .i64 (cdk k p q t l))]):=by
 have hl3:[p,q,t].length<=1048576:=by simp
 cases hd:dO l
 .have hC:cdk k p q t l=1:=by simp[cdk,hd]
  rw[hC]
  refine fn0 Cd.s_CalculateDeck_k λX=>?_
  repeat' first|simp -dsimp only[go_sem,cC,cPf,hd]|apply Br.mk<;>intro h<;>try simp -dsimp only[h]|refine aB.c (by first|exact kZ l hs hl|exact fK k|exact jC l|exact aN [p,q,t] (dW l) hl3) ?_|refine aC ?_|refine aC9 ?_|fail
  all_goals first|exact⟨_,_,rfl,rfl⟩
 .cases hb:wE k p q t l
  .have hC:cdk k p q t l=2:=by simp[cdk,hd,hb]
   rw[hC]
   cases hk1:inB k 1 4
   .refine fn0 Cd.s_CalculateDeck_k λX=>?_
    simp -dsimp only[go_sem,cC,cPf,hd]
    repeat' first|simp -dsimp only[go_sem,cC,cPf,hd,hk1,Bool.false_and]|apply Br.mk<;>intro h<;>try simp -dsimp only[h]|refine aB.c (by first|exact kZ l hs hl|exact fK k|exact jC l|exact aN [p,q,t] (dW l) hl3) ?_|refine aC ?_|refine aC9 ?_|fail
    all_goals first|exact⟨_,_,rfl,rfl⟩
   .have hk2:eY [p,q,t] (dW l)=false:=by simpa[wE,hk1] using hb
    refine fn0 Cd.s_CalculateDeck_k λX=>?_
    simp -dsimp only[go_sem,cC,cPf,hd]
    repeat' first|simp -dsimp only[go_sem,cC,cPf,hd,hk1,hk2,Bool.and_false]|apply Br.mk<;>intro h<;>try simp -dsimp only[h]|refine aB.c (by first|exact kZ l hs hl|exact fK k|exact jC l|exact aN [p,q,t] (dW l) hl3) ?_|refine aC ?_|refine aC9 ?_|fail
    all_goals first|exact⟨_,_,rfl,rfl⟩
  .obtain⟨hk1,hk2,hok⟩:=x9 hd hb
   have hC:cdk k p q t l=cdF k p q t.1.toNat (ccW t) l:=by simp[cdk,hd,hb]
   rw[hC] at h0⊢
   have hne:∃c,c∈l:=by
    cases l with
    |nil=>exact(h0 rfl).elim
    |cons a r=>exact⟨a,List.mem_cons_self⟩
   obtain⟨c0,hc0⟩:=hne
   obtain⟨fr,w,ht,ht1,ht2,_,hw0,hw12⟩:=aB5 (hok c0 hc0).2.2.1
   rw[ht1,ht2] at h0⊢
   subst ht
   refine fn0 Cd.s_CalculateDeck_k λX=>?_
   simp -dsimp only[go_sem,cC,cPf,hd]
   repeat' first|simp -dsimp only[go_sem,cC,cPf,hd,hk1,hk2,Bool.and_true]|apply Br.mk<;>intro h<;>try simp -dsimp only[h]|refine aB.c (by first|exact kZ l hs hl|exact fK k|exact jC l|exact aN [p,q,((fr:Int),((fr+w:Nat):Int))] (dW l) hl3) ?_|refine aC ?_|refine aC9 ?_|fail
   refine bA.at dM (X:={zz:Nat×(Unit) // zz.1<=l.length∧cdF k p q fr w (l.drop zz.1)=cdF k p q fr w l}) (λzz=>[(12,.loc (.t 12 0) 0 zz.1.1),(13,.v (.int .i64 zz.1.1))]) (λzz=>[(.t 12 0,.arr 1 (E cC ((l.take zz.1.1).map (cdH k p q fr w))) false)]) (λzz=>l.length-zz.1.1) ⟨(0,()),by omega,by simp⟩ ?_ ?_
   .simp[Vs.LeL,Vs.look,Vs.aA,Vs.bL,Vs.aO,Vs.hset,Vs.aP,Vs.E]
   .rintro⟨⟨i,_⟩,hi,hg⟩
    dsimp only at hi hg
    simp -dsimp only[go_sem,cC,cPf]
    refine Br.mk (λhc=>?_) λhc=>?_
    .have hlt:i<l.length:=Dq
     have hw:=aQ hlt (by omega)
     have hm:(E cC l).getD i []=[.sl 1 (E cI l[i])]:=bI hlt
     obtain⟨hp,hq,hf3,hc20⟩:=hok l[i] (List.getElem_mem hlt)
     have hf:fr+w<=l[i].length:=by have:=hf3.2.2.1;omega
     have hap:E cC ((l.take i).map (cdH k p q fr w))++[[.sl 1 (E cI (cdH k p q fr w l[i]))]]=E cC ((l.take (i+1)).map (cdH k p q fr w)):=by rw[dP hlt,List.map_append,bR];rfl
     have hal:(E cC ((l.take i).map (cdH k p q fr w))).length=i:=by rw[aJ];simp;omega
     rw[List.drop_eq_getElem_cons hlt,cdF] at hg
     by_cases hz:cdC k p q fr w l[i]=0
     .rw[if_pos hz] at hg
      have hg2:cdF k p q fr w (l.drop (i+1))=cdF k p q fr w l:=hg
      have h0:=hz
      have C1:=xI k p q fr w l[i] hp hq hf hw0 hw12 hc20 h0
      repeat' first|simp -dsimp only[go_sem,hm,hw,hap,hal,cC,cPf]|apply Br.mk<;>intro h<;>try simp -dsimp only[h]|refine aB.c (by first|exact C1) ?_|refine aC ?_|refine aC9 ?_|fail
      all_goals first|omega|(exact nx (i+1,()) hg2 (h2:=by simp[Vs.LeL,Vs.look,Vs.aA,Vs.bL,Vs.aO,Vs.hset,Vs.aP,hap]))
     .rw[if_neg hz] at hg
      have C0:=aAS k p q fr w l[i] hp hq hf hw0 hw12 hc20 hz
      have ez:(cdC k p q fr w l[i] != 0)=true:=by simp[hz]
      repeat' first|simp -dsimp only[go_sem,hm,ez,hw,hap,hal,cC,cPf]|apply Br.mk<;>intro h<;>try simp -dsimp only[h]|refine aB.c (by first|exact C0) ?_|refine aC ?_|refine aC9 ?_|fail
      all_goals first|(rw[←hg];exact⟨_,_,rfl,rfl⟩)|(simp[←hg];done)|exact⟨_,_,rfl,by rw[hg]⟩
    .have hge:i=l.length:=by
      have:¬i<l.length:=Dq
      omega
     subst hge
     simp -dsimp only[go_sem,cC,cPf]
     rw[List.drop_length,cdF] at hg
     exact(h0 hg.symm).elim
attribute [local go_sem] Int.reduceBEq Int.reduceBNe cFd cT3 List.mem_singleton Name.t.injEq false_and Blk.row List.replicate_succ List.replicate_zero List.flatten_cons List.flatten_nil List.cons_append List.nil_append List.set_cons_zero List.set_cons_succ List.length_cons List.length_nil List.length_set aJ in
set_option maxRecDepth 20000 in
theorem aDl (k:Int) (p q t:Int×Int) (l:List (List Int)) (hs:∀x,x∈l->x.length<=1048576) (hl:l.length<=1048576) (h0:cdk k p q t l=0):Fz F.dD [.v (.int .i64 k),.sl 1 (E cC l),.agg (cPf p),.agg (cPf q),.agg (cPf t)] (.tup [.sl 1 (E cC (l.map (cdH k p q t.1.toNat (ccW t)))),.v (.int .i64 0)]):=by
 have hl3:[p,q,t].length<=1048576:=by simp
 have hd:dO l=true:=by
  cases h:dO l
  .exact absurd h0 (by simp[cdk,h])
  .rfl
 have hb:wE k p q t l=true:=by
  cases h:wE k p q t l
  .exact absurd h0 (by simp[cdk,hd,h])
  .rfl
 obtain⟨hk1,hk2,hok⟩:=x9 hd hb
 have hC:cdk k p q t l=cdF k p q t.1.toNat (ccW t) l:=by simp[cdk,hd,hb]
 rw[hC] at h0
 have hk3:iI t.1 t.2 (dW l)=true:=by
  simp only[eY,List.all_cons,List.all_nil,Bool.and_true,Bool.and_eq_true] at hk2
  exact hk2.2.2
 obtain ⟨fr,w,ht,ht1,ht2,_,hw0,hw12⟩:=zT hk3 (by
   by_cases h:l.length=0
   . rw[dW,if_pos h];omega
   . obtain⟨a,r,rfl⟩:∃a r,l=a::r:=by
       cases l with
       |nil=>exact(h rfl).elim
       |cons a r=>exact⟨a,r,rfl⟩
     obtain⟨a1,a2⟩:=jU hd a List.mem_cons_self
     have:=oU a1
     omega)
 rw[ht1,ht2] at h0⊢
 have hall:=aEB h0
 subst ht
 refine fn0 Cd.s_CalculateDeck_k λX=>?_
 simp -dsimp only[go_sem,cC,cPf,hd]
 repeat' first|simp -dsimp only[go_sem,cC,cPf,hd,hk1,hk2,Bool.and_true]|apply Br.mk<;>intro h<;>try simp -dsimp only[h]|refine aB.c (by first|exact kZ l hs hl|exact fK k|exact jC l|exact aN [p,q,((fr:Int),((fr+w:Nat):Int))] (dW l) hl3) ?_|refine aC ?_|refine aC9 ?_|fail
 refine bA.at dM (X:={zz:Nat×(Unit) // zz.1<=l.length∧True}) (λzz=>[(12,.loc (.t 12 0) 0 zz.1.1),(13,.v (.int .i64 zz.1.1))]) (λzz=>[(.t 12 0,.arr 1 (E cC ((l.take zz.1.1).map (cdH k p q fr w))) false)]) (λzz=>l.length-zz.1.1) ⟨(0,()),by omega,trivial⟩ ?_ ?_
 .simp[Vs.LeL,Vs.look,Vs.aA,Vs.bL,Vs.aO,Vs.hset,Vs.aP,Vs.E]
 .rintro⟨⟨i,_⟩,hi,hg⟩
  dsimp only at hi hg
  simp -dsimp only[go_sem,cC,cPf]
  refine Br.mk (λhc=>?_) λhc=>?_
  .have hlt:i<l.length:=Dq
   have hw:=aQ hlt (by omega)
   have hm:(E cC l).getD i []=[.sl 1 (E cI l[i])]:=bI hlt
   obtain⟨hp,hq,hf3,hc20⟩:=hok l[i] (List.getElem_mem hlt)
   have hf:fr+w<=l[i].length:=by have:=hf3.2.2.1;omega
   have hap:E cC ((l.take i).map (cdH k p q fr w))++[[.sl 1 (E cI (cdH k p q fr w l[i]))]]=E cC ((l.take (i+1)).map (cdH k p q fr w)):=by rw[dP hlt,List.map_append,bR];rfl
   have hal:(E cC ((l.take i).map (cdH k p q fr w))).length=i:=by rw[aJ];simp;omega
   have h0:=hall _ (List.getElem_mem hlt)
   have C1:=xI k p q fr w l[i] hp hq hf hw0 hw12 hc20 h0
   repeat' first|simp -dsimp only[go_sem,hm,hw,hap,hal,cC,cPf]|apply Br.mk<;>intro h<;>try simp -dsimp only[h]|refine aB.c (by first|exact C1) ?_|refine aC ?_|refine aC9 ?_|fail
   all_goals first|omega|(exact nx (i+1,()) trivial (h2:=by simp[Vs.LeL,Vs.look,Vs.aA,Vs.bL,Vs.aO,Vs.hset,Vs.aP,hap]))
  .have hge:i=l.length:=by
    have:¬i<l.length:=Dq
    omega
   subst hge
   simp -dsimp only[go_sem,cC,cPf]
   have htk:(E cC ((l.take l.length).map (cdH k p q fr w))).take l.length=E cC (l.map (cdH k p q fr w)):=by
    rw[List.take_of_length_le (Nat.le_refl l.length)];exact List.take_of_length_le (by rw[aJ];simp)
   first|exact⟨⟨_,_,rfl,rfl⟩,λh=>h rfl⟩|(rw[htk];exact⟨⟨_,_,rfl,rfl⟩,λh=>h rfl⟩)|(simp[htk];done)
end
section
variable [Vs.Tab 0 Vs.powP]
attribute [local irreducible] Vs.Fn
theorem yC (k:Int) (p q:Int×Int) (fr w:Nat) (c:List Int) (hk:inB k 1 4=true) (hp:okP p.1 p.2 c) (hq:okP q.1 q.2 c) (hf:fr+w<=c.length) (hw0:0<w) (hw12:w<=12) (hc20:c.length<=20) (h0:cdC k p q fr w c=0):Fz F.bF [.v (.int .i64 k),.agg (cC c),.agg (cPf p),.agg (cPf q),.agg [.v (.int .i64 (fr:Nat)),.v (.int .i64 (fr+w:Nat))]] (.tup [.agg (cC (cdH k p q fr w c)),.v (.int .i64 0)]):=by
 have hww:IntKind.i64.wrap (((fr+w:Nat):Int)-(fr:Int))=(w:Int):=by rw[aG (by omega) (by omega)];omega
 have hE:List.drop fr (List.take (fr+w) (E cI c))=E cI ((c.take (fr+w)).drop fr):=by simp[E,List.map_take,List.map_drop]
 have hcl:((c.take (fr+w)).drop fr).length<=1048576:=by simp;omega
 obtain⟨hr,hd,hcl9⟩:=qK h0
 unfold clash at hcl9
 have hrg:=yE hr
 have hr0:-9223372036854775807<=(bM k p q c).1:=by omega
 have hr1:(bM k p q c).1<=9223372036854775807:=by omega
 have hnn:(bM k p q c).1.natAbs<2 ^ 63:=by omega
 have hz0:((bM k p q c).2.2 != 0)=false:=by simp[hr]
 have hgt:=zW (n:=(bM k p q c).1.natAbs) hw0
 have hd2:(!decide ((bM k p q c).1.natAbs/10 ^ w=0))=false:=by simp[hd]
 rw[hd2] at hgt
 refine fn0 Cd.i_calculatedCard_k λX=>?_
 simp -dsimp only[go_sem,cC,cPf,cFd]
 repeat' first|simp -dsimp only[go_sem,cC,cPf,cFd,cT3,hww,hE,Int.toNat_natCast,List.length_take,List.length_drop,aJ,hz0,hgt,hcl9]|apply Br.mk<;>intro h<;>try simp -dsimp only[h]|refine aB.c (by first|exact iN k hk p q c hp hq|exact yK _ hr0 hr1|exact digitsOf _ hnn|exact aCn _ hcl) ?_|refine aC ?_|refine aC9 ?_|fail
 refine aB.own (aDE c fr w _ (by omega) hf hw0 hrg.1 hrg.2) rfl ?_
 simp -dsimp only[go_sem,cC,cPf,cFd,cT3,hww,hE,Int.toNat_natCast,List.length_take,List.length_drop,aJ]
 have hxl:(ptN w (bM k p q c).1).length=w:=mF _ _
 exact⟨[.t 53 0],[],by rw[List.take_of_length_le (by rw[aJ,jZ hf hxl];exact Nat.le_refl _)];rfl,rfl⟩
attribute [local go_sem] Int.reduceBEq Int.reduceBNe cFd cT3 List.mem_singleton Name.t.injEq false_and Blk.row List.replicate_succ List.replicate_zero List.flatten_cons List.flatten_nil List.cons_append List.nil_append List.set_cons_zero List.set_cons_succ List.length_cons List.length_nil List.length_set aJ in
set_option maxRecDepth 20000 in
theorem aD8 (k:Int) (p q t:Int×Int) (l:List (List Int)) (hs:∀x,x∈l->x.length<=1048576) (hl:l.length<=1048576) (h0:cdk k p q t l≠0):Fz F.bE [.v (.int .i64 k),.sl 1 (E cC l),.agg (cPf p),.agg (cPf q),.agg (cPf t)] (.tup [.v (.slice none 0 0),.v (.int .i64 (cdk k p q t l))]):=by
 have hl3:[p,q,t].length<=1048576:=by simp
 have e2:((2:Int) != 0)=true:=rfl
 cases hd:dO l
 .have hC:cdk k p q t l=1:=by simp[cdk,hd]
  rw[hC]
  refine fn0 Cd.i_CalculateDeck_k λX=>?_
  repeat' first|simp -dsimp only[go_sem,cC,cPf,hd]|apply Br.mk<;>intro h<;>try simp -dsimp only[h]|refine aB.c (by first|exact iP l hs hl|exact eQ l|exact bQ k (dW l) [p,q,t] hl3) ?_|refine aC ?_|refine aC9 ?_|fail
  all_goals first|exact⟨_,_,rfl,rfl⟩
 .cases hb:wE k p q t l
  .have hC:cdk k p q t l=2:=by simp[cdk,hd,hb]
   rw[hC]
   have hkk:(inB k 1 4&&eY [p,q,t] (dW l))=false:=hb
   refine fn0 Cd.i_CalculateDeck_k λX=>?_
   simp -dsimp only[go_sem,cC,cPf,hd]
   repeat' first|simp -dsimp only[go_sem,cC,cPf,hd,hkk,e2]|apply Br.mk<;>intro h<;>try simp -dsimp only[h]|refine aB.c (by first|exact iP l hs hl|exact eQ l|exact bQ k (dW l) [p,q,t] hl3) ?_|refine aC ?_|refine aC9 ?_|fail
   all_goals first|exact⟨_,_,rfl,rfl⟩
  .obtain⟨hk1,hk2,hok⟩:=x9 hd hb
   have hC:cdk k p q t l=cdF k p q t.1.toNat (ccW t) l:=by simp[cdk,hd,hb]
   rw[hC] at h0⊢
   have hne:∃c,c∈l:=by
    cases l with
    |nil=>exact(h0 rfl).elim
    |cons a r=>exact⟨a,List.mem_cons_self⟩
   obtain⟨c0,hc0⟩:=hne
   obtain⟨fr,w,ht,ht1,ht2,_,hw0,hw12⟩:=aB5 (hok c0 hc0).2.2.1
   rw[ht1,ht2] at h0⊢
   subst ht
   refine fn0 Cd.i_CalculateDeck_k λX=>?_
   simp -dsimp only[go_sem,cC,cPf,hd]
   repeat' first|simp -dsimp only[go_sem,cC,cPf,hd,hk1,hk2,Bool.and_true]|apply Br.mk<;>intro h<;>try simp -dsimp only[h]|refine aB.c (by first|exact iP l hs hl|exact eQ l|exact bQ k (dW l) [p,q,((fr:Int),((fr+w:Nat):Int))] hl3) ?_|refine aC ?_|refine aC9 ?_|fail
   refine bA.at dM (X:={zz:Nat×(Unit) // zz.1<=l.length∧cdF k p q fr w (l.drop zz.1)=cdF k p q fr w l}) (λzz=>[(13,.loc (.t 13 0) 0 zz.1.1),(35,.v (.int .i64 zz.1.1))]) (λzz=>[(.t 13 0,.arr 1 (E cC ((l.take zz.1.1).map (cdH k p q fr w))) false)]) (λzz=>l.length-zz.1.1) ⟨(0,()),by omega,by simp⟩ ?_ ?_
   .simp[Vs.LeL,Vs.look,Vs.aA,Vs.bL,Vs.aO,Vs.hset,Vs.aP,Vs.E]
   .rintro⟨⟨i,_⟩,hi,hg⟩
    dsimp only at hi hg
    simp -dsimp only[go_sem,cC,cPf]
    refine Br.mk (λhc=>?_) λhc=>?_
    .have hlt:i<l.length:=Dq
     have hw:=aQ hlt (by omega)
     have hm:(E cC l).getD i []=[.sl 1 (E cI l[i])]:=bI hlt
     obtain⟨hp,hq,hf3,hc20⟩:=hok l[i] (List.getElem_mem hlt)
     have hf:fr+w<=l[i].length:=by have:=hf3.2.2.1;omega
     have hap:E cC ((l.take i).map (cdH k p q fr w))++[[.sl 1 (E cI (cdH k p q fr w l[i]))]]=E cC ((l.take (i+1)).map (cdH k p q fr w)):=by rw[dP hlt,List.map_append,bR];rfl
     have hal:(E cC ((l.take i).map (cdH k p q fr w))).length=i:=by rw[aJ];simp;omega
     rw[List.drop_eq_getElem_cons hlt,cdF] at hg
     by_cases hz:cdC k p q fr w l[i]=0
     .rw[if_pos hz] at hg
      have hg2:cdF k p q fr w (l.drop (i+1))=cdF k p q fr w l:=hg
      have C1:=yC k p q fr w l[i] hk1 hp hq hf hw0 hw12 hc20 hz
      repeat' first|simp -dsimp only[go_sem,hm,hw,hap,hal,cC,cPf]|apply Br.mk<;>intro h<;>try simp -dsimp only[h]|refine aB.c (by first|exact C1) ?_|refine aC ?_|refine aC9 ?_|fail
      all_goals first|omega|(exact nx (i+1,()) hg2 (h2:=by simp[Vs.LeL,Vs.look,Vs.aA,Vs.bL,Vs.aO,Vs.hset,Vs.aP,hap]))
     .rw[if_neg hz] at hg
      have C0:=zM k p q fr w l[i] hk1 hp hq hf hw0 hw12 hc20 hz
      have ez:(cdC k p q fr w l[i] != 0)=true:=by simp[hz]
      repeat' first|simp -dsimp only[go_sem,hm,ez,hw,hap,hal,cC,cPf]|apply Br.mk<;>intro h<;>try simp -dsimp only[h]|refine aB.c (by first|exact C0) ?_|refine aC ?_|refine aC9 ?_|fail
      all_goals first|(rw[←hg];exact⟨_,_,rfl,rfl⟩)|(simp[←hg];done)|exact⟨_,_,rfl,by rw[hg]⟩
    .have hge:i=l.length:=by
      have:¬i<l.length:=Dq
      omega
     subst hge
     simp -dsimp only[go_sem,cC,cPf]
     rw[List.drop_length,cdF] at hg
     exact(h0 hg.symm).elim
theorem aCp {k:Int}{p q:Int×Int}{fr wd:Nat}{c:List Int} (hf:fr+wd<=c.length):(cdH k p q fr wd c).length=c.length:=jZ hf (mF _ _)
end
end Go.Proofs.YtfoddghhlagenaaGreatDoor
