/- Offices that are valid. -/
import Derived.Test.YthfnpdhpefialaaGreatYwVi
import Derived.Test.YthfnpdhpefialaaGreatYwVf
import Derived.Test.YthfnpdhpefialaaGreatYwSq
import Derived.Test.YthfnpdhpefialaaGreatYwVb
import Derived.Test.YthfnpdhpefialaaGreatYwC
import Derived.Test.YthfnpdhpefialaaGreatYuS
set_option linter.all false
set_option maxHeartbeats 8000000
namespace Go.Proofs.YthfnpdhpefialaaGreat
open Go.Vs
section
variable [Vs.Envs]
attribute [local irreducible] Vs.Fn grpTo numC keyC sumN keyL sumW chOK areCh chTo chAt l03 chB rk cd3 chI stp stpTo
theorem first_bad {α:Type}{p:α→Bool}:∀{l:List α},l.all p=false→∃m,∃h:m<l.length,p l[m]=false∧∀j,(hj:j<l.length)→j<m→p l[j]=true
 | [],h=>by simp at h
 | x::r,h=>by
  cases hx:p x
  ·exact⟨0,by simp,by simpa using hx,fun j _ hj=>by omega⟩
  ·rw[List.all_cons,hx,Bool.true_and] at h
   obtain⟨m,hm,h1,h2⟩:=first_bad h
   refine⟨m+1,by simpa using hm,by simpa using h1,fun j hj hjm=>?_⟩
   cases j with
   |zero=>simpa using hx
   |succ j=>simpa using h2 j (by simpa using hj) (by omega)
section
variable (l:List (List Int)) (fr to sf st:Int) (hk:smallC l) (hd:deckB l=true) (hf:fldB fr to (widB l)=true) (hn:numB sf st (widB l)=true)
include hk hd hf hn
attribute [local go_sem] Int.reduceBEq Int.reduceBNe cFd E_len List.replicate_succ List.replicate_zero List.flatten_cons List.flatten_nil List.cons_append List.nil_append List.set_cons_zero List.set_cons_succ List.length_cons List.length_nil List.length_set List.getD_cons_zero in
theorem l13Read_bad (ha:allCh fr to l=true) (hN:allN sf st l=false):∃v,Fz F.s_l13Read [.ro [.v (.int .i64 fr),.v (.int .i64 to),.sl 2 [[.v (.int .i64 sf),.v (.int .i64 st)]],.v (.bool false)],.sl 1 (E cC l)] (.tup [.ro v,.v (.int .i64 8)]):=by
 obtain⟨m,hm,hbad,hok0⟩:=first_bad hN
 refine⟨[.v (.slice none 0 0),numsV sf st l m,.v (.slice none 0 0)],?_⟩
 have DK:=l02Deck l hk.2 hk.1
 rw[hd] at DK
 have WD:=l07Width l
 have OKS:=l13Ok1 fr to sf st (widB l) (widB_in l fr to sf st hk hd hf hn) hf hn
 have KS:=l07Keys l fr to hk.2 hk.1
 have ho:=okF_of hd hf
 have h40:=deck_40 hd
 have hc:keyC fr to l=0:=by simp only[keyC,hd,hf,ha];rfl
 rw[show keyV fr to l=.sl 1 (E cSt (keyL fr to l)) by simp[keyV,hc],hc] at KS
 have hp:∀c,c∈l→okP sf st c:=okP_of hd hn
 have e1c:∀x:Int,E cI [x]=[[.v (.int .i64 x)]]:=fun _=>rfl
 have hok:∀j,(h:j<l.length)→j<m→(numC sf st l[j]).2=true:=hok0
 refine fn0 CdV.l13Read_k fun X=>?_
 repeat' first|simp -dsimp only[go_sem,cC]|apply Br.mk<;>intro h<;>try simp -dsimp only[h]|refine CallK.c (by first|exact DK|exact WD|exact OKS|exact KS) ?_|refine aC ?_|fail
 refine LoopK.at dM (X:={j:Nat // j≤m}) (fun j=>[(9,.v (.int .i64 (j.1:Nat)))]) (fun j=>(.t 15 0,.var [.v (.slice none 0 0),numsA sf st l j.1,.v (.slice none 0 0)] false)::numsH sf st l j.1) (fun j=>m-j.1) ⟨0,by omega⟩ ?_ ?_
 ·simp[Vs.LeL,Vs.look,Vs.hlook,Vs.sput,Vs.sputs,Vs.hset,Vs.hputs,numsA,numsH]
 ·rintro⟨j,hj⟩
  try dsimp only at hj
  by_cases hjm:j<m
  ·have hlt:j<l.length:=by omega
   have ht:decide ((j:Int)<(l.length:Int))=true:=decide_eq_true (by omega)
   have gj:(E cC l).getD j []=[.sl 1 (E cI l[j])]:=E_get hlt
   have PC:=partC (hp _ (List.getElem_mem hlt))
   have NI:=l03NumberC (hp _ (List.getElem_mem hlt))
   have hrow:=numL_row (sf:=sf) (st:=st) hlt
   have hrl:(E cRw ((numL sf st l).take j)).length=j:=by rw[E_len,List.length_take,numL_len];omega
   have hrl2:((numL sf st l).take j).length=j:=by rw[List.length_take,numL_len];omega
   have hwj:IntKind.i64.wrap ((j:Int)+1)=((j+1:Nat):Int):=by rw[wrap_in (by omega) (by omega)];omega
   rw[hok j hlt hjm] at NI
   by_cases hj0:j=0
   ·have hA:numsA sf st l j=.v (.slice none 0 0):=by simp[numsA,hj0]
    have hH:numsH sf st l j=[]:=by simp[numsH,hj0]
    have hr0:E cRw ((numL sf st l).take j)=[]:=by rw[hj0];rfl
    have hrow0:[[.sl 1 [[.v (.int .i64 (numC sf st l[j]).1)]]]]=E cRw ((numL sf st l).take (j+1)):=by rw[←hrow,hr0];rfl
    rw[hA,hH]
    repeat' first|simp -dsimp only[go_sem,ht,e1c,cC]|apply Br.mk<;>intro h<;>try simp -dsimp only[h]|refine aC ?_|fail
    refine LoopK.at dM (X:={zz:Nat×(Unit) // zz.1≤1∧True}) (fun zz=>[(10,.loc (.t 10 0) 0 zz.1.1),(42,.junk),(11,.v (.int .i64 zz.1.1))]) (fun zz=>[(.t 10 0,.arr 1 (E cI ([(numC sf st l[j]).1].take zz.1.1)) false)]) (fun zz=>1-zz.1.1) ⟨(0,()),by omega,trivial⟩ ?_ ?_
    ·simp[Vs.LeL,Vs.look,Vs.hlook,Vs.sput,Vs.sputs,Vs.hset,Vs.hputs,Vs.E,cI]
    ·rintro⟨⟨i,_⟩,hi,hg⟩
     dsimp only at hi hg
     simp -dsimp only[go_sem,cC]
     refine Br.mk (fun hc=>?_) fun hc=>?_
     ·have hlt:i<1:=Dq
      have hw:=wrap_succ hlt (by omega)
      obtain rfl:i=0:=by omega
      repeat' first|simp -dsimp only[go_sem,gj,e1c,cC,hw]|apply Br.mk<;>intro h<;>try simp -dsimp only[h]|refine CallK.c (by first|exact PC|exact NI) ?_|refine aC ?_|fail
      all_goals first|omega|(exact nx (1,()) trivial (h2:=by simp[Vs.LeL,Vs.look,Vs.hlook,Vs.sput,Vs.sputs,Vs.hset,Vs.hputs,Vs.E,cI]))
     ·have hge:i=1:=by
       have:¬i<1:=Dq
       omega
      subst hge
      simp -dsimp only[go_sem,cC]
      repeat' first|simp -dsimp only[go_sem,hwj,e1c,hrow,hrl,hrl2,ht,hrow0,cC]|apply Br.mk<;>intro h<;>try simp -dsimp only[h]|refine And.intro ?_ (fun h=>absurd rfl h)|refine aC ?_|fail
      first|(exact⟨⟨j+1,by omega⟩,by simp[Vs.LeL,Vs.look,Vs.hlook,Vs.sput,Vs.sputs,Vs.hset,Vs.hputs,numsA,numsH,hrow,Vs.E,hj0],by simp only;omega⟩)
   ·have hA:numsA sf st l j=.loc (.t 84 0) 0 j:=by simp[numsA,hj0]
    have hH:numsH sf st l j=[(.t 84 0,.arr 1 (E cRw ((numL sf st l).take j)) false)]:=by simp[numsH,hj0]
    rw[hA,hH]
    repeat' first|simp -dsimp only[go_sem,ht,e1c,cC]|apply Br.mk<;>intro h<;>try simp -dsimp only[h]|refine aC ?_|fail
    refine LoopK.at dM (X:={zz:Nat×(Unit) // zz.1≤1∧True}) (fun zz=>[(10,.loc (.t 10 0) 0 zz.1.1),(42,.junk),(11,.v (.int .i64 zz.1.1))]) (fun zz=>[(.t 10 0,.arr 1 (E cI ([(numC sf st l[j]).1].take zz.1.1)) false)]) (fun zz=>1-zz.1.1) ⟨(0,()),by omega,trivial⟩ ?_ ?_
    ·simp[Vs.LeL,Vs.look,Vs.hlook,Vs.sput,Vs.sputs,Vs.hset,Vs.hputs,Vs.E,cI]
    ·rintro⟨⟨i,_⟩,hi,hg⟩
     dsimp only at hi hg
     simp -dsimp only[go_sem,cC]
     refine Br.mk (fun hc=>?_) fun hc=>?_
     ·have hlt:i<1:=Dq
      have hw:=wrap_succ hlt (by omega)
      obtain rfl:i=0:=by omega
      repeat' first|simp -dsimp only[go_sem,gj,e1c,cC,hw]|apply Br.mk<;>intro h<;>try simp -dsimp only[h]|refine CallK.c (by first|exact PC|exact NI) ?_|refine aC ?_|fail
      all_goals first|omega|(exact nx (1,()) trivial (h2:=by simp[Vs.LeL,Vs.look,Vs.hlook,Vs.sput,Vs.sputs,Vs.hset,Vs.hputs,Vs.E,cI]))
     ·have hge:i=1:=by
       have:¬i<1:=Dq
       omega
      subst hge
      simp -dsimp only[go_sem,cC]
      repeat' first|simp -dsimp only[go_sem,hwj,e1c,hrow,hrl,hrl2,ht,cC]|apply Br.mk<;>intro h<;>try simp -dsimp only[h]|refine And.intro ?_ (fun h=>absurd rfl h)|refine aC ?_|fail
      first|(exact⟨⟨j+1,by omega⟩,by simp[Vs.LeL,Vs.look,Vs.hlook,Vs.sput,Vs.sputs,Vs.hset,Vs.hputs,numsA,numsH,hrow,Vs.E],by simp only;omega⟩)
  ·obtain rfl:j=m:=by omega
   have hlt:j<l.length:=hm
   have ht:decide ((j:Int)<(l.length:Int))=true:=decide_eq_true (by omega)
   have gj:(E cC l).getD j []=[.sl 1 (E cI l[j])]:=E_get hlt
   have PC:=partC (hp _ (List.getElem_mem hlt))
   have NI:=l03NumberC (hp _ (List.getElem_mem hlt))
   have hrow:=numL_row (sf:=sf) (st:=st) hlt
   have hrl:(E cRw ((numL sf st l).take j)).length=j:=by rw[E_len,List.length_take,numL_len];omega
   have hrl2:((numL sf st l).take j).length=j:=by rw[List.length_take,numL_len];omega
   have hwj:IntKind.i64.wrap ((j:Int)+1)=((j+1:Nat):Int):=by rw[wrap_in (by omega) (by omega)];omega
   rw[hbad] at NI
   by_cases hj0:j=0
   ·have hA:numsA sf st l j=.v (.slice none 0 0):=by simp[numsA,hj0]
    have hH:numsH sf st l j=[]:=by simp[numsH,hj0]
    rw[hA,hH,show numsV sf st l j=.v (.slice none 0 0) by simp[numsV,hj0]]
    repeat' first|simp -dsimp only[go_sem,ht,e1c,cC]|apply Br.mk<;>intro h<;>try simp -dsimp only[h]|refine aC ?_|fail
    refine LoopK.at dM (X:={zz:Nat×(Unit) // zz.1≤1∧zz.1=0}) (fun zz=>[(10,.loc (.t 10 0) 0 zz.1.1),(42,.junk),(11,.v (.int .i64 zz.1.1))]) (fun zz=>[(.t 10 0,.arr 1 (E cI ([(numC sf st l[j]).1].take zz.1.1)) false)]) (fun zz=>1-zz.1.1) ⟨(0,()),by omega,rfl⟩ ?_ ?_
    ·simp[Vs.LeL,Vs.look,Vs.hlook,Vs.sput,Vs.sputs,Vs.hset,Vs.hputs,Vs.E,cI]
    ·rintro⟨⟨i,_⟩,hi,hg⟩
     dsimp only at hi hg
     simp -dsimp only[go_sem,cC]
     refine Br.mk (fun hc=>?_) fun hc=>?_
     ·have hlt:i<1:=Dq
      have hw:=wrap_succ hlt (by omega)
      obtain rfl:i=0:=by omega
      repeat' first|simp -dsimp only[go_sem,gj,e1c,ht,cC,hw]|apply Br.mk<;>intro h<;>try simp -dsimp only[h]|refine CallK.c (by first|exact PC|exact NI) ?_|refine aC ?_|fail
      all_goals first|omega|(exact⟨_,_,rfl,rfl⟩)|(rw[hbad];exact⟨_,_,rfl,rfl⟩)
     ·have hge:i=1:=by
       have:¬i<1:=Dq
       omega
      subst hge
      simp -dsimp only[go_sem,cC]
      omega
   ·have hA:numsA sf st l j=.loc (.t 84 0) 0 j:=by simp[numsA,hj0]
    have hH:numsH sf st l j=[(.t 84 0,.arr 1 (E cRw ((numL sf st l).take j)) false)]:=by simp[numsH,hj0]
    rw[hA,hH,show numsV sf st l j=.sl 1 (E cRw ((numL sf st l).take j)) by simp[numsV,hj0]]
    have htk:(E cRw ((numL sf st l).take j)).take j=E cRw ((numL sf st l).take j):=List.take_of_length_le (by omega)
    repeat' first|simp -dsimp only[go_sem,ht,e1c,cC]|apply Br.mk<;>intro h<;>try simp -dsimp only[h]|refine aC ?_|fail
    refine LoopK.at dM (X:={zz:Nat×(Unit) // zz.1≤1∧zz.1=0}) (fun zz=>[(10,.loc (.t 10 0) 0 zz.1.1),(42,.junk),(11,.v (.int .i64 zz.1.1))]) (fun zz=>[(.t 10 0,.arr 1 (E cI ([(numC sf st l[j]).1].take zz.1.1)) false)]) (fun zz=>1-zz.1.1) ⟨(0,()),by omega,rfl⟩ ?_ ?_
    ·simp[Vs.LeL,Vs.look,Vs.hlook,Vs.sput,Vs.sputs,Vs.hset,Vs.hputs,Vs.E,cI]
    ·rintro⟨⟨i,_⟩,hi,hg⟩
     dsimp only at hi hg
     simp -dsimp only[go_sem,cC]
     refine Br.mk (fun hc=>?_) fun hc=>?_
     ·have hlt:i<1:=Dq
      have hw:=wrap_succ hlt (by omega)
      obtain rfl:i=0:=by omega
      repeat' first|simp -dsimp only[go_sem,gj,e1c,ht,htk,cC,hw]|apply Br.mk<;>intro h<;>try simp -dsimp only[h]|refine CallK.c (by first|exact PC|exact NI) ?_|refine aC ?_|fail
      all_goals first|omega|(exact⟨_,_,rfl,rfl⟩)|(rw[hbad];exact⟨_,_,rfl,rfl⟩)
     ·have hge:i=1:=by
       have:¬i<1:=Dq
       omega
      subst hge
      simp -dsimp only[go_sem,cC]
      omega
attribute [local go_sem] Int.reduceBEq Int.reduceBNe E_len List.replicate_succ List.replicate_zero List.flatten_cons List.flatten_nil List.cons_append List.nil_append List.set_cons_zero List.set_cons_succ List.length_cons List.length_nil List.length_set List.getD_cons_zero in
theorem l15Sums:Fz F.s_l15Sums [.sl 1 (E cC l),.agg (cFd fr to),.agg (cFd sf st)] (.tup [totV fr to sf st l,.v (.int .i64 (if totB fr to sf st l then 0 else 8))]):=by
 cases ha:allCh fr to l
 ·have RD:=l13Read_ch l fr to sf st hk hd hf hn ha
  have hb:totB fr to sf st l=false:=by simp[totB,ha]
  rw[show totV fr to sf st l=.v (.slice none 0 0) by simp[totV,hb],hb]
  refine fn0 Cd.s_l15Sums_k fun X=>?_
  repeat' first|simp -dsimp only[go_sem,cC,cFd,cTt]|apply Br.mk<;>intro h<;>try simp -dsimp only[h]|refine CallK.c (by first|exact RD) ?_|refine aC ?_|fail
  all_goals first|exact⟨_,_,rfl,rfl⟩
 cases hN:allN sf st l
 ·obtain⟨v,RD⟩:=l13Read_bad l fr to sf st hk hd hf hn ha hN
  have hb:totB fr to sf st l=false:=by simp[totB,hN]
  rw[show totV fr to sf st l=.v (.slice none 0 0) by simp[totV,hb],hb]
  refine fn0 Cd.s_l15Sums_k fun X=>?_
  repeat' first|simp -dsimp only[go_sem,cC,cFd,cTt]|apply Br.mk<;>intro h<;>try simp -dsimp only[h]|refine CallK.c (by first|exact RD) ?_|refine aC ?_|fail
  all_goals first|exact⟨_,_,rfl,rfl⟩
 have RD:=l13Read_ok l fr to sf st hk hd hf hn ha hN
 have hb:totB fr to sf st l=true:=by simp[totB,hN,ha]
 rw[show totV fr to sf st l=.sl 2 (E cTt (totL fr to sf st l)) by simp[totV,hb],hb]
 have h40:=deck_40 hd
 have hin:=grpTo_in (fr:=fr) (to:=to) (l:=l) l.length
 have hup:=grpTo_up (fr:=fr) (to:=to) (l:=l) l.length
 have hgl:=grpTo_len fr to l l.length
 have htl:totL fr to sf st l=(List.range (grpTo fr to l l.length).length).map (fun i=>(txt (fH fr to ((grpAt l (grpTo fr to l l.length) i).getD 0 [])),sumW sf st (grpAt l (grpTo fr to l l.length) i))):=by
  unfold totL grpL
  rw[List.map_map];rfl
 rw[htl]
 have hkl:(keyL fr to l).length=l.length:=by unfold keyL;simp
 have hkg:∀i,i<l.length→(E cSt (keyL fr to l)).getD i []=[.v (.string (txt (fH fr to (l.getD i []))))]:=fun i hi=>by
  rw[E_get (by omega)]
  simp[cSt,keyL,List.getD,hi]
 generalize grpTo fr to l l.length=o at *
 refine fn0 Cd.s_l15Sums_k fun X=>?_
 repeat' first|simp -dsimp only[go_sem,cC,cFd,cTt]|apply Br.mk<;>intro h<;>try simp -dsimp only[h]|refine CallK.c (by first|exact RD) ?_|refine aC ?_|fail
 refine LoopK.at dM (X:={zz:Nat×(Unit) // zz.1≤o.length∧True}) (fun zz=>[(10,.loc (.t 10 0) 0 zz.1.1),(11,.v (.int .i64 zz.1.1))]) (fun zz=>[(.t 10 0,.arr 2 (E cTt ((List.range zz.1.1).map fun i=>(txt (fH fr to ((grpAt l o i).getD 0 [])),sumW sf st (grpAt l o i)))) false)]) (fun zz=>o.length-zz.1.1) ⟨(0,()),by omega,trivial⟩ ?_ ?_
 ·simp[Vs.LeL,Vs.look,Vs.hlook,Vs.sput,Vs.sputs,Vs.hset,Vs.hputs,Vs.E]
 ·rintro⟨⟨i,_⟩,hi,hg⟩
  dsimp only at hi hg
  simp -dsimp only[go_sem,cC,cFd,cTt]
  refine Br.mk (fun hc=>?_) fun hc=>?_
  ·have hlt:i<o.length:=Dq
   have hw:=wrap_succ hlt (by omega)
   obtain ⟨a,e,hae,hel,ga,hga,hge2,hend⟩:∃a e:Nat,a<e∧e≤l.length∧o[i]=(a:Int)∧(o.getD i 0).toNat=a∧(if i+1<o.length then(o.getD (i+1) 0).toNat else l.length)=e∧(if i+1<o.length then o.getD (i+1) 0 else((keyL fr to l).length:Int))=(e:Int):=by
    have h0:=hin _ (List.getElem_mem hlt)
    have e0:o.getD i 0=o[i]:=by simp[List.getD,hlt]
    by_cases h1:i+1<o.length
    ·have h2:=hin _ (List.getElem_mem h1)
     have h3:o[i]<o[i+1]:=List.pairwise_iff_getElem.1 hup i (i+1) hlt h1 (by omega)
     have e1:o.getD (i+1) 0=o[i+1]:=by simp[List.getD,h1]
     refine⟨o[i].toNat,o[i+1].toNat,by omega,by omega,by omega,by rw[e0],by rw[if_pos h1,e1],by rw[if_pos h1,e1];omega⟩
    ·refine⟨o[i].toNat,l.length,by omega,by omega,by omega,by rw[e0],by rw[if_neg h1],by rw[if_neg h1,hkl]⟩
   have hgat:grpAt l o i=(l.take e).drop a:=by unfold grpAt;rw[hge2,hga]
   have hg0:((l.take e).drop a).getD 0 []=l.getD a []:=by
    simp only[List.getD]
    rw[List.getElem?_drop,List.getElem?_take,if_pos (by omega),Nat.add_zero]
   have gi:(E cI o).getD i []=[.v (.int .i64 (a:Int))]:=by rw[cI_get hlt,ga]
   have gk:=hkg a (by omega)
   have EN:=r_end (numsV sf st l l.length) o (keyL fr to l) i hlt (by omega)
   rw[hend] at EN
   have hnv:numsV sf st l l.length=.sl 1 (E cRw (numL sf st l)):=by
    unfold numsV
    rw[if_neg (by omega),List.take_of_length_le (by rw[numL_len];omega)]
   have SM:=r_sums (.sl 1 (E cSt (keyL fr to l))) (.sl 1 (E cI o)) (numL sf st l) a e (by omega) (by rw[numL_len];exact hel) (by rw[numL_len];omega)
   have hsm:sumN (((numL sf st l).take e).drop a)=sumW sf st ((l.take e).drop a):=by
    rw[←sumN_map];congr 1;simp[numL,List.map_take,List.map_drop]
   rw[hsm] at SM
   rw[hnv] at EN⊢
   have e1s:(E cI [sumW sf st ((l.take e).drop a)]).getD 0 []=[.v (.int .i64 (sumW sf st ((l.take e).drop a)))]:=rfl
   have e1l:(E cI [sumW sf st ((l.take e).drop a)]).length=1:=rfl
   have hap:E cTt ((List.range i).map fun i=>(txt (fH fr to ((grpAt l o i).getD 0 [])),sumW sf st (grpAt l o i)))++[[.v (.string (txt (fH fr to (l.getD a [])))),.v (.int .i64 (sumW sf st ((l.take e).drop a)))]]=E cTt ((List.range (i+1)).map fun i=>(txt (fH fr to ((grpAt l o i).getD 0 [])),sumW sf st (grpAt l o i))):=by
    rw[List.range_succ,List.map_append,E_append]
    simp only[List.map_cons,List.map_nil,hgat,hg0];rfl
   have hal:(E cTt ((List.range i).map fun i=>(txt (fH fr to ((grpAt l o i).getD 0 [])),sumW sf st (grpAt l o i)))).length=i:=by rw[E_len];simp
   have hta:((a:Nat):Int).toNat=a:=by omega
   generalize sumW sf st ((l.take e).drop a)=sw at *
   generalize txt (fH fr to (l.getD a []))=nm at *
   repeat' first|simp -dsimp only[go_sem,gi,gk,hw,hap,hal,hta,e1s,e1l,hkl,cC,cFd]|apply Br.mk<;>intro h<;>try simp -dsimp only[h]|refine CallK.c (by first|exact EN|exact SM) ?_|refine aC ?_|fail
   all_goals first|omega|(exact nx (i+1,()) trivial (h2:=by simp[Vs.LeL,Vs.look,Vs.hlook,Vs.sput,Vs.sputs,Vs.hset,Vs.hputs,hap,hnv,List.range_succ,Vs.rnL,Vs.rn,Vs.nmF,Vs.scr,Vs.AV.has]))
  ·have hge:i=o.length:=by
    have:¬i<o.length:=Dq
    omega
   subst hge
   simp -dsimp only[go_sem,cC,cFd,cTt]
   have htk:(E cTt ((List.range o.length).map fun i=>(txt (fH fr to ((grpAt l o i).getD 0 [])),sumW sf st (grpAt l o i)))).take o.length=E cTt ((List.range o.length).map fun i=>(txt (fH fr to ((grpAt l o i).getD 0 [])),sumW sf st (grpAt l o i))):=List.take_of_length_le (by rw[E_len];simp)
   first|(rw[htk];exact⟨⟨_,_,rfl,rfl⟩,fun h=>h rfl⟩)
end
end
section
variable [Vs.Envs]
attribute [local irreducible] Vs.Fn pun cmT zR offT selC keyC chOK areCh chTo chAt l03 chB rk cd3 chI stp stpTo
theorem selC_key {fr to:Int}{s:ByteArray}{l:List (List Int)} (h:selC fr to s l=0):deckB l=true∧fldB fr to (widB l)=true∧s.size=to.toNat-fr.toNat∧areCh s=true∧allCh fr to l=true:=by
 obtain⟨hd,hf,hsz,hch,hall⟩:=selC_ok h
 have hf2:=hf
 simp only[fldB,Bool.and_eq_true,decide_eq_true_eq] at hf2
 have hz2:((s.size:Int))=W (to-fr):=by simpa using hsz
 have hwb:widB l≤1048576:=by
  have h40:=deck_40 hd
  unfold widB
  split
  ·omega
  ·rename_i h0
   have hm:l.getD 0 []∈l:=by rw[show l.getD 0 []=l[0]'(by omega) by simp[List.getD,(by omega:0<l.length)]];exact List.getElem_mem _
   have:=(okF_of hd hf _ hm).2.2.2
   omega
 rw[show W (to-fr)=to-fr from wrap_in (by omega) (by omega)] at hz2
 exact⟨hd,hf,by omega,hch,hall⟩
attribute [local go_sem] Int.reduceBEq Int.reduceBNe cP List.replicate_succ List.replicate_zero List.flatten_cons List.flatten_nil List.cons_append List.nil_append List.set_cons_zero List.set_cons_succ List.length_cons List.length_nil List.length_set in
theorem spec_SelectEqual (l:List (List Int)) (fr to:Int) (s:ByteArray) (hk:smallC l) (hz:s.size≤1048576):Fz F.s_SelectEqual [.sl 1 (E cC l),.agg (cFd fr to),.v (.string s)] (.tup [selV fr to s l,.v (.int .i64 (selC fr to s l))]):=by
 have AK:=l09Ask l fr to s hk hz
 by_cases h0:selC fr to s l=0
 ·obtain⟨hd,hf,hsz,hch,hall⟩:=selC_key h0
  have ho:=okF_of hd hf
  have h40:=deck_40 hd
  rw[show selV fr to s l=.sl 1 (E cC (flt (offT fr to s) l)) by simp[selV,h0],h0]
  rw[show askV fr to s l=.sl 1 (E cSt (keyL fr to l)) by simp[askV,h0],h0] at AK
  have hkl:=keyL_len fr to l
  refine fn0 Cd.s_SelectEqual_k fun X=>?_
  repeat' first|simp -dsimp only[go_sem,cC,cFd,hkl,E_len]|apply Br.mk<;>intro h<;>try simp -dsimp only[h]|refine CallK.c (by first|exact AK) ?_|refine aC ?_|fail
  refine LoopK.at dM (X:={zz:Nat×(Unit) // zz.1≤l.length∧True}) (fun zz=>[(10,.loc (.t 10 0) 0 (flt (offT fr to s) (l.take zz.1.1)).length),(11,.v (.int .i64 zz.1.1))]) (fun zz=>[(.t 10 0,.arr 1 (E cC (flt (offT fr to s) (l.take zz.1.1))) false)]) (fun zz=>l.length-zz.1.1) ⟨(0,()),by omega,trivial⟩ ?_ ?_
  ·simp[Vs.LeL,Vs.look,Vs.hlook,Vs.sput,Vs.sputs,Vs.hset,Vs.hputs,Vs.E,flt]
  ·rintro⟨⟨i,_⟩,hi,hg⟩
   dsimp only at hi hg
   simp -dsimp only[go_sem,cC,cFd,hkl,E_len]
   refine Br.mk (fun hc=>?_) fun hc=>?_
   ·have hlt:i<l.length:=Dq
    have hw:=wrap_succ hlt (by omega)
    have hc:=ho _ (List.getElem_mem hlt)
    have hko:=key_off hc (List.all_eq_true.1 hall _ (List.getElem_mem hlt)) hsz hch
    have hm:(E cSt (keyL fr to l)).getD i []=[.v (.string (txt (fH fr to l[i])))]:=by rw[E_get (by omega)];simp[keyL,cSt]
    have hm2:(E cC l).getD i []=[.sl 1 (E cI l[i])]:=E_get hlt
    have hfs:=flt_succ (q:=offT fr to s) hlt
    have hfl:=flt_len (offT fr to s) (l.take i)
    have ht:(l.take i).length=i:=by simp;omega
    have NC:=l02Own l[i] (hk.2 _ (List.getElem_mem hlt))
    have hE:(E cC (flt (offT fr to s) (l.take i))).length=(flt (offT fr to s) (l.take i)).length:=E_len ..
    cases hq:offT fr to s l[i]
    ·rw[hq] at hfs hko
     have hap:E cC (flt (offT fr to s) (l.take i))++[[.sl 1 (E cI l[i])]]=E cC (flt (offT fr to s) (l.take (i+1))):=by rw[hfs,E_append];rfl
     have hln:(flt (offT fr to s) (l.take (i+1))).length=(flt (offT fr to s) (l.take i)).length+1:=by rw[hfs];simp
     simp -dsimp only[go_sem,hm,hm2,hw,hko,cC,cFd]
     repeat' first|simp -dsimp only[go_sem,hm,hm2,hw,hko,hap,hE,cC,cFd]|apply Br.mk<;>intro h<;>try simp -dsimp only[h]|refine CallK.c (by first|exact NC) ?_|refine aC ?_|fail
     all_goals first|omega|(exact nx (i+1,()) trivial (h2:=by simp[Vs.LeL,Vs.look,Vs.hlook,Vs.sput,Vs.sputs,Vs.hset,Vs.hputs,hln,Vs.rnL,Vs.rn,Vs.nmF,Vs.scr,Vs.AV.has]))
    ·rw[hq] at hfs hko
     have hsame:flt (offT fr to s) (l.take (i+1))=flt (offT fr to s) (l.take i):=by rw[hfs];simp
     repeat' first|simp -dsimp only[go_sem,hm,hm2,hw,hko,cC,cFd]|apply Br.mk<;>intro h<;>try simp -dsimp only[h]|refine aC ?_|fail
     all_goals first|omega|(exact nx (i+1,()) trivial (h2:=by simp[Vs.LeL,Vs.look,Vs.hlook,Vs.sput,Vs.sputs,Vs.hset,Vs.hputs,hsame,Vs.rnL,Vs.rn,Vs.nmF,Vs.scr,Vs.AV.has]))
   ·have hge:i=l.length:=by
     have:¬i<l.length:=Dq
     omega
    subst hge
    simp -dsimp only[go_sem,cC,cFd,hkl,E_len]
    have htk:(E cC (flt (offT fr to s) (l.take l.length))).take (flt (offT fr to s) (l.take l.length)).length=E cC (flt (offT fr to s) l):=by
     rw[List.take_length];exact List.take_of_length_le (by rw[E_len];exact Nat.le_refl _)
    first|(rw[htk];exact⟨⟨_,_,rfl,rfl⟩,fun h=>h rfl⟩)|(rw[List.take_length];exact⟨⟨_,_,rfl,rfl⟩,fun h=>h rfl⟩)
 ·have e0:(selC fr to s l != 0)=true:=by simp[h0]
  rw[show selV fr to s l=.v (.slice none 0 0) by simp[selV,h0]]
  rw[show askV fr to s l=.v (.slice none 0 0) by simp[askV,h0]] at AK
  generalize selC fr to s l=c at *
  refine fn0 Cd.s_SelectEqual_k fun X=>?_
  repeat' first|simp -dsimp only[go_sem,cC,cFd,e0]|apply Br.mk<;>intro h<;>try simp -dsimp only[h]|refine CallK.c (by first|exact AK) ?_|refine aC ?_|fail
  all_goals first|exact⟨_,_,rfl,rfl⟩
theorem wid_in {l:List (List Int)} (hd:deckB l=true):inB (widB l) 1 20=true:=by
 by_cases h0:l.length=0
 ·unfold widB;rw[if_pos h0];rfl
 ·have hd2:=hd
  simp only[deckB,Bool.and_eq_true,List.all_eq_true,decide_eq_true_eq] at hd2
  have hm:l.getD 0 []∈l:=by rw[show l.getD 0 []=l[0]'(by omega) by simp[List.getD,(by omega:0<l.length)]];exact List.getElem_mem _
  have:=(hd2.1 _ hm).1
  simp only[cardB,inB,Bool.and_eq_true,decide_eq_true_eq] at this
  unfold widB
  rw[if_neg h0]
  simp only[inB,Bool.and_eq_true,decide_eq_true_eq]
  omega
theorem deckB_sub {l m:List (List Int)} (hd:deckB l=true) (hs:∀c,c∈m→c∈l) (hm:m.length≤40):deckB m=true∧(widB m=20∨widB m=widB l):=by
 simp only[deckB,Bool.and_eq_true,List.all_eq_true,decide_eq_true_eq] at hd⊢
 by_cases h0:m.length=0
 ·rw[List.eq_nil_of_length_eq_zero h0]
  exact⟨⟨fun c hc=>(by cases hc),by simp⟩,.inl rfl⟩
 ·have hm0:m.getD 0 []∈m:=by rw[show m.getD 0 []=m[0]'(by omega) by simp[List.getD,(by omega:0<m.length)]];exact List.getElem_mem _
  have e0:=(hd.1 _ (hs _ hm0)).2
  refine⟨⟨fun c hc=>⟨(hd.1 _ (hs c hc)).1,by rw[e0];exact(hd.1 _ (hs c hc)).2⟩,hm⟩,.inr ?_⟩
  have hl0:l.length≠0:=by
   intro e
   have:=hs _ hm0
   rw[List.eq_nil_of_length_eq_zero e] at this;cases this
  unfold widB
  rw[if_neg h0,if_neg hl0,e0]
end
section
variable [Vs.Envs]
attribute [local irreducible] Vs.Fn
def wO:List (List (List Int))→Nat
 | []=>20
 |d::r=>if d.length=0 then wO r else(d.getD 0 []).length
theorem wO_step {l:List (List (List Int))}{i:Nat} (h:i<l.length):wO (l.drop i)=if l[i].length=0 then wO (l.drop (i+1)) else(l[i].getD 0 []).length:=by
 rw[List.drop_eq_getElem_cons h,wO]
theorem officeColumns (o:Off) (ho:smallO o):Fz F.i_officeColumns [.agg (cO o)] (.v (.int .i64 (wO o.trays))):=by
 refine fn0 Cd.i_officeColumns_k fun X=>?_
 simp -dsimp only[go_sem,cO]
 refine LoopK.at dM (X:={zz:Nat×(Unit) // zz.1≤o.trays.length∧wO (o.trays.drop zz.1)=wO o.trays}) (fun zz=>[(8,.v (.int .i64 zz.1.1))]) (fun zz=>[]) (fun zz=>o.trays.length-zz.1.1) ⟨(0,()),by omega,rfl⟩ ?_ ?_
 ·exact le0
 ·rintro⟨⟨i,_⟩,hi,hg⟩
  dsimp only at hi hg
  simp -dsimp only[go_sem]
  refine Br.mk (fun hc=>?_) fun hc=>?_
  ·have hlt:i<o.trays.length:=Dq
   have hw:=wrap_succ hlt ho.1.1
   rw[wO_step hlt] at hg
   by_cases hd0:o.trays[i].length=0
   ·have hgt:decide ((o.trays[i].length:Int)>0)=false:=decide_eq_false (by omega)
    rw[if_pos hd0] at hg
    repeat' first|simp -dsimp only[go_sem,E_get hlt,cD,hgt,hw]|apply Br.mk<;>intro h<;>try simp -dsimp only[h]|refine aC ?_|fail
    all_goals(exact nx (i+1,()) hg)
   ·have hgt:decide ((o.trays[i].length:Int)>0)=true:=decide_eq_true (by omega)
    have h0:0<o.trays[i].length:=by omega
    rw[if_neg hd0,getD_lt h0] at hg
    repeat' first|simp -dsimp only[go_sem,E_get hlt,E_get h0,cD,hgt,cC]|apply Br.mk<;>intro h<;>try simp -dsimp only[h]|refine CallK.c (by first|exact columns _) ?_|refine aC ?_|fail
    all_goals(refine ret_eq ?_;simp[←hg];done)
  ·have hge:i=o.trays.length:=by
    have:¬i<o.trays.length:=Dq
    omega
   subst hge
   simp -dsimp only[go_sem]
   rw[List.drop_length,wO] at hg
   simp[←hg]
theorem l15Width (o:Off) (ho:smallO o):Fz F.s_l15Width [.ro (cO o)] (.v (.int .i64 (wO o.trays))):=by
 refine fn0 Cd.s_l15Width_k fun X=>?_
 simp -dsimp only[go_sem,cO]
 refine LoopK.at dM (X:={zz:Nat×(Unit) // zz.1≤o.trays.length∧wO (o.trays.drop zz.1)=wO o.trays}) (fun zz=>[(3,.v (.int .i64 zz.1.1))]) (fun zz=>[]) (fun zz=>o.trays.length-zz.1.1) ⟨(0,()),by omega,rfl⟩ ?_ ?_
 ·exact le0
 ·rintro⟨⟨i,_⟩,hi,hg⟩
  dsimp only at hi hg
  simp -dsimp only[go_sem]
  refine Br.mk (fun hc=>?_) fun hc=>?_
  ·have hlt:i<o.trays.length:=Dq
   have hw:=wrap_succ hlt ho.1.1
   rw[wO_step hlt] at hg
   by_cases hd0:o.trays[i].length=0
   ·have hgt:decide ((o.trays[i].length:Int)>0)=false:=decide_eq_false (by omega)
    rw[if_pos hd0] at hg
    repeat' first|simp -dsimp only[go_sem,E_get hlt,cD,hgt,hw]|apply Br.mk<;>intro h<;>try simp -dsimp only[h]|refine aC ?_|fail
    all_goals(exact nx (i+1,()) hg)
   ·have hgt:decide ((o.trays[i].length:Int)>0)=true:=decide_eq_true (by omega)
    have h0:0<o.trays[i].length:=by omega
    rw[if_neg hd0,getD_lt h0] at hg
    repeat' first|simp -dsimp only[go_sem,E_get hlt,E_get h0,cD,hgt,cC]|apply Br.mk<;>intro h<;>try simp -dsimp only[h]|refine CallK.c (by first|exact columns _) ?_|refine aC ?_|fail
    all_goals(refine ret_eq ?_;simp[←hg];done)
  ·have hge:i=o.trays.length:=by
    have:¬i<o.trays.length:=Dq
    omega
   subst hge
   simp -dsimp only[go_sem]
   rw[List.drop_length,wO] at hg
   simp[←hg]
end
end Go.Proofs.YthfnpdhpefialaaGreat
