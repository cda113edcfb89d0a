/- Fields of cards: comparisons, keys, steps down. -/
import Derived.Test.YtmiiohemehacjaaGreatDoorXwQb
import Derived.Test.YtmiiohemehacjaaGreatDoorXwD
import Derived.Test.YtmiiohemehacjaaGreatDoorXuF
set_option linter.all false
set_option maxHeartbeats 8000000
namespace Go.Proofs.YtmiiohemehacjaaGreatDoor
open Go.Vs
section
variable [Vs.Envs]
attribute [local irreducible] Vs.Fn chOK areCh chTo chAt l03 chB rk cd3
attribute [local go_sem] List.replicate_succ List.replicate_zero List.flatten_cons List.flatten_nil List.cons_append List.nil_append List.set_cons_zero List.set_cons_succ List.length_cons List.length_nil List.length_set
theorem vP {l:List Int} (h:bU l=true) {i:Nat} (hi:i<l.length):0<=rk l[i]:=by
 simp only[bU,List.all_eq_true,decide_eq_true_eq] at h;exact h _ (List.getElem_mem hi)
theorem aHz {l:List Int}{i:Nat} (hi:i<l.length):E cU ((l.map chI).take i)++[[.v (.int .u8 (chI l[i]))]]=E cU ((l.map chI).take (i+1)):=by
 have h2:i<(l.map chI).length:=by simpa using hi
 rw[bB h2,aV];simp[E,cU]
theorem aHA {l:List Int}{i:Nat} (hi:i<=l.length):((l.map chI).take i).length=i:=by simp;omega
theorem aK5 (m:Int):(chB (rk m).toNat:Int)=chI m:=rfl
theorem yH (l:List Int):aCp ((l.map chI).take l.length)=txt l:=by unfold txt;rw[List.take_of_length_le (by simp)]
attribute [local irreducible] chI
theorem textOf (l:List Int) (hl:l.length<=1048576) (hh:bU l=true):Fz F.xS [.sl 1 (E cI l)] (.v (.string (txt l))):=by
 refine fn0 Cd.i_textOf_k λX=>?_;simp -dsimp only[go_sem];refine⟨⟨by omega,by omega⟩,?_⟩;refine aN.at dM (X:={zz:Nat×(Unit) // zz.1<=l.length∧True}) (λzz=>[(3,.loc (.t 3 0) 0 zz.1.1),(9,.v (.int .i64 zz.1.1))]) (λzz=>[(.t 3 0,.arr 1 (E cU ((l.map chI).take zz.1.1)) false)]) (λzz=>l.length-zz.1.1) ⟨(0,()),by omega,trivial⟩ ?_ ?_
 .simp[Vs.LeL,Vs.look,Vs.aB,Vs.aR,Vs.aK,Vs.hset,Vs.aL,Vs.E]
 .rintro⟨⟨i,_⟩,hi,hg⟩;dsimp only at hi hg;simp -dsimp only[go_sem,rT,yH];refine Br.mk (λhc=>?_) λhc=>?_
  .have hlt:i<l.length:=Dq;have hw:=aH hlt hl;have hr:=vP hh hlt;have hr2:=(aCr l[i]).2;have hap:=aHz hlt;have htl:=aHA (l:=l) (i:=i) (by omega)
   repeat' first|simp -dsimp only[go_sem,hw,bY hlt,chL,chS,aK5,hap,htl,aI]|apply Br.mk<;>intro h<;>try simp -dsimp only[h]|refine aD.c (by first|exact aCv _) ?_|refine aC ?_|fail
   all_goals first|omega|(exact nx (i+1,()) trivial)
  .have hge:i=l.length:=by
    have:¬i<l.length:=Dq;omega
   subst hge;simp -dsimp only[go_sem,rT,yH];have ht:(E cU ((l.map chI).take l.length)).take l.length=E cU ((l.map chI).take l.length):=List.take_of_length_le (by simp[Vs.E]);simp[ht,rT,yH]
def aCP (l:List Int):ByteArray×Bool:=if bU l then(txt l,true) else(⟨#[]⟩,false)
theorem aG8 {l:List Int}{i:Nat} (hi:i<l.length) (h:bU (l.take i)=true) (h2:0<=rk l[i]):bU (l.take (i+1))=true:=by
 unfold bU at h⊢;exact aX (p:=λm=>decide (0<=rk m)) hi h (by simpa using h2)
theorem aD1 {l:List Int}{i:Nat} (hi:i<l.length) (h2:¬0<=rk l[i]):bU l=false:=by
 unfold bU;exact gG (p:=λm=>decide (0<=rk m)) hi (by simpa using h2)
theorem aL6 (l:List Int) (hl:l.length<=1048576):Fz F.uU [.sl 1 (E cI l)] (.tup [.v (.string (aCP l).1),.v (.bool (aCP l).2)]):=by
 refine fn0 Cd.s_l03Text_k λX=>?_;simp -dsimp only[go_sem];refine⟨⟨by omega,by omega⟩,?_⟩;refine aN.at dM (X:={zz:Nat×(Unit) // zz.1<=l.length∧bU (l.take zz.1)=true}) (λzz=>[(4,.loc (.t 4 0) 0 zz.1.1),(5,.v (.int .i64 zz.1.1))]) (λzz=>[(.t 4 0,.arr 1 (E cU ((l.map chI).take zz.1.1)) false)]) (λzz=>l.length-zz.1.1) ⟨(0,()),by omega,by simp[bU]⟩ ?_ ?_
 .simp[Vs.LeL,Vs.look,Vs.aB,Vs.aR,Vs.aK,Vs.hset,Vs.aL,Vs.E]
 .rintro⟨⟨i,_⟩,hi,hg⟩;dsimp only at hi hg;simp -dsimp only[go_sem,rT,yH];refine Br.mk (λhc=>?_) λhc=>?_
  .have hlt:i<l.length:=Dq;have hw:=aH hlt hl;have hr2:=(aCr l[i]).2;have hap:=aHz hlt;have htl:=aHA (l:=l) (i:=i) (by omega);by_cases hz:0<=rk l[i]
   .have e1:aFP l[i]=(chI l[i],true):=by simp[aFP,hz]
    repeat' first|simp -dsimp only[go_sem,hw,bY hlt,e1,hap,htl,aI]|apply Br.mk<;>intro h<;>try simp -dsimp only[h]|refine aD.c (by first|exact aH7 _) ?_|refine aC ?_|fail
    all_goals first|omega|(exact nx (i+1,()) (aG8 hlt hg hz))
   .have e1:aFP l[i]=(0,false):=by simp[aFP,hz]
    repeat' first|simp -dsimp only[go_sem,hw,bY hlt,e1]|apply Br.mk<;>intro h<;>try simp -dsimp only[h]|refine aD.c (by first|exact aH7 _) ?_|refine aC ?_|fail
    all_goals first|omega|(refine aU ?_;simp[aCP,aD1 hlt hz];done)|(simp[aCP,aD1 hlt hz];done)
  .have hge:i=l.length:=by
    have:¬i<l.length:=Dq;omega
   subst hge;simp -dsimp only[go_sem,rT,yH];have hh:bU l=true:=by simpa using hg
   have ht:(E cU ((l.map chI).take l.length)).take l.length=E cU ((l.map chI).take l.length):=List.take_of_length_le (by simp[Vs.E]);simp[ht,rT,yH,aCP,hh]
def iN:List Int->List Int->Int
 |x::a,y::b=>if rk x<rk y then -1 else if rk x>rk y then 1 else iN a b
 |_,_=>0
theorem aD8 {a b:List Int}{i:Nat} (F:i<a.length) (H:i<b.length):iN (a.drop i) (b.drop i)=if rk a[i]<rk b[i] then -1 else if rk a[i]>rk b[i] then 1 else iN (a.drop (i+1)) (b.drop (i+1)):=by
 rw[List.drop_eq_getElem_cons F,List.drop_eq_getElem_cons H,iN]
theorem aAP (a b:List Int) (hl:a.length<=1048576) (hab:a.length=b.length):Fz F.iC [.sl 1 (E cI a),.sl 1 (E cI b)] (.v (.int .i64 (iN a b))):=by
 refine fn0 Cd.i_compareHoles_k λX=>?_;simp -dsimp only[go_sem];refine aN.at dM (X:={zz:Nat×(Unit) // zz.1<=a.length∧iN (a.drop zz.1) (b.drop zz.1)=iN a b}) (λzz=>[(10,.v (.int .i64 zz.1.1))]) (λzz=>[]) (λzz=>a.length-zz.1.1) ⟨(0,()),by omega,by simp⟩ ?_ ?_
 .exact le0
 .rintro⟨⟨i,_⟩,hi,hg⟩;dsimp only at hi hg;simp -dsimp only[go_sem];refine Br.mk (λhc=>?_) λhc=>?_
  .have hlt:i<a.length:=Dq;have hw:=aH hlt hl;have hlb:i<b.length:=by omega
   rw[aD8 hlt hlb] at hg;by_cases h1:rk a[i]<rk b[i]
   .have e1:decide (rk a[i]<rk b[i])=true:=decide_eq_true h1;rw[if_pos h1] at hg
    repeat' first|simp -dsimp only[go_sem,hw,bY hlt,bY hlb,e1]|apply Br.mk<;>intro h<;>try simp -dsimp only[h]|refine aD.c (by first|exact aCv _) ?_|refine aC ?_|fail
    all_goals first|omega|(refine aU ?_;simp[←hg];done)|(simp[←hg];done)
   .have e1:decide (rk a[i]<rk b[i])=false:=decide_eq_false h1;rw[if_neg h1] at hg;by_cases h2:rk a[i]>rk b[i]
    .have e2:decide (rk a[i]>rk b[i])=true:=decide_eq_true h2;rw[if_pos h2] at hg
     repeat' first|simp -dsimp only[go_sem,hw,bY hlt,bY hlb,e1,e2]|apply Br.mk<;>intro h<;>try simp -dsimp only[h]|refine aD.c (by first|exact aCv _) ?_|refine aC ?_|fail
     all_goals first|omega|(refine aU ?_;simp[←hg];done)|(simp[←hg];done)
    .have e2:decide (rk a[i]>rk b[i])=false:=decide_eq_false h2;rw[if_neg h2] at hg
     repeat' first|simp -dsimp only[go_sem,hw,bY hlt,bY hlb,e1,e2]|apply Br.mk<;>intro h<;>try simp -dsimp only[h]|refine aD.c (by first|exact aCv _) ?_|refine aC ?_|fail
     all_goals first|omega|(exact nx (i+1,()) hg)
  .have hge:i=a.length:=by
    have:¬i<a.length:=Dq;omega
   subst hge;simp -dsimp only[go_sem]
   have hg2:iN a b=0:=by
    rw[←hg,List.drop_length];cases b.drop a.length<;>rfl
   simp[hg2]
theorem aCm (l:List Int):(txt l).size=l.length:=by simp[txt,aCp,ByteArray.size]
theorem aEm {l:List Int} (h:bU l=true) {i:Nat} (hi:i<l.length):((txt l).data.toList.getD i 0).toNat=chB (rk l[i]).toNat:=by
 have h2:=aND (rk l[i]).toNat (by have:=(aCr l[i]).2;omega);have F:=aK5 l[i];simp only[txt,aCp,List.getD_eq_getElem?_getD,List.getElem?_map,List.getElem?_eq_getElem hi,Option.map_some,Option.getD_some,←F,Int.toNat_natCast];rw[UInt8.toNat_ofNat',Nat.mod_eq_of_lt (by simpa using h2)]
theorem wG (a b:List Int) (hl:a.length<=1048576) (hab:a.length=b.length) (ha:bU a=true) (hb:bU b=true):Fz F.eZ [.v (.string (txt a)),.v (.string (txt b))] (.v (.int .i64 (iN a b))):=by
 have hsa:=aCm a;have hsb:=aCm b;refine fn0 Cd.s_l03Compare_k λX=>?_;simp -dsimp only[go_sem];refine aN.at dM (X:={zz:Nat×(Unit) // zz.1<=a.length∧iN (a.drop zz.1) (b.drop zz.1)=iN a b}) (λzz=>[(5,.v (.int .i64 zz.1.1))]) (λzz=>[]) (λzz=>a.length-zz.1.1) ⟨(0,()),by omega,by simp⟩ ?_ ?_
 .exact le0
 .rintro⟨⟨i,_⟩,hi,hg⟩;dsimp only at hi hg;simp -dsimp only[go_sem,hsa,hsb];refine Br.mk (λhc=>?_) λhc=>?_
  .have hlt:i<a.length:=Dq;have hw:=aH hlt hl;have hlb:i<b.length:=by omega
   rw[aD8 hlt hlb] at hg;have ra:=vP ha hlt;have rb:=vP hb hlb;have ra2:=(aCr a[i]).2;have rb2:=(aCr b[i]).2;have ta:=aEm ha hlt;have tb:=aEm hb hlb;have na:((rk a[i]).toNat:Int)=rk a[i]:=by omega
   have nb:((rk b[i]).toNat:Int)=rk b[i]:=by omega
   by_cases h1:rk a[i]<rk b[i]
   .have e1:decide (rk a[i]<rk b[i])=true:=decide_eq_true h1;rw[if_pos h1] at hg
    repeat' first|simp -dsimp only[go_sem,hw,bY hlt,bY hlb,e1,hsa,hsb,ta,tb,na,nb]|apply Br.mk<;>intro h<;>try simp -dsimp only[h]|refine aD.c (by first|exact aEL _ (by omega)) ?_|refine aC ?_|fail
    all_goals first|omega|(refine aU ?_;simp[←hg];done)|(simp[←hg];done)
   .have e1:decide (rk a[i]<rk b[i])=false:=decide_eq_false h1;rw[if_neg h1] at hg;by_cases h2:rk a[i]>rk b[i]
    .have e2:decide (rk a[i]>rk b[i])=true:=decide_eq_true h2;rw[if_pos h2] at hg
     repeat' first|simp -dsimp only[go_sem,hw,bY hlt,bY hlb,e1,e2,hsa,hsb,ta,tb,na,nb]|apply Br.mk<;>intro h<;>try simp -dsimp only[h]|refine aD.c (by first|exact aEL _ (by omega)) ?_|refine aC ?_|fail
     all_goals first|omega|(refine aU ?_;simp[←hg];done)|(simp[←hg];done)
    .have e2:decide (rk a[i]>rk b[i])=false:=decide_eq_false h2;rw[if_neg h2] at hg
     repeat' first|simp -dsimp only[go_sem,hw,bY hlt,bY hlb,e1,e2,hsa,hsb,ta,tb,na,nb]|apply Br.mk<;>intro h<;>try simp -dsimp only[h]|refine aD.c (by first|exact aEL _ (by omega)) ?_|refine aC ?_|fail
     all_goals first|omega|(exact nx (i+1,()) hg)
  .have hge:i=a.length:=by
    have:¬i<a.length:=Dq;omega
   subst hge;simp -dsimp only[go_sem,hsa,hsb]
   have hg2:iN a b=0:=by
    rw[←hg,List.drop_length];cases b.drop a.length<;>rfl
   simp[hg2]
end
section
variable [Vs.Envs]
attribute [local irreducible] Vs.Fn chOK areCh chTo chAt l03 chB rk cd3 chI
def fH (fr to:Int) (c:List Int):List Int:=(c.take to.toNat).drop fr.toNat
def okF (fr to:Int) (c:List Int):Prop:=0<=fr∧fr<to∧to<=c.length∧c.length<=20
theorem kR {fr to:Int}{c:List Int} (h:okF fr to c):(fH fr to c).length=to.toNat-fr.toNat:=by
 obtain⟨F,H,h2,I⟩:=h;simp[fH];omega
theorem aAO {fr to:Int}{c:List Int} (h:okF fr to c):(fH fr to c).length<=1048576:=by
 have:=kR h;obtain⟨F,H,h2,I⟩:=h;omega
theorem bS {fr to:Int}{c:List Int} (h:okF fr to c):0<=fr∧fr<=to∧to<=((E cI c).length:Int):=by
 obtain⟨F,H,h2,I⟩:=h;rw[aI];omega
theorem aW {fr to:Int}{c:List Int} (h:okF fr to c):0<=fr∧fr<=to∧to<=(c.length:Int):=by
 obtain⟨F,H,h2,I⟩:=h;omega
theorem fH_E (fr to:Int) (c:List Int):((E cI c).take to.toNat).drop fr.toNat=E cI (fH fr to c):=by simp[fH,E,List.map_take,List.map_drop]
def cmF (fr to:Int) (a b:List Int):Int:=iN (fH fr to a) (fH fr to b)
def bP (fr to:Int) (l:List (List Int)):Bool:=l.all λc=>bU (fH fr to c)
theorem lH (a b:List Int) (fr to:Int) (H:okF fr to a) (I:okF fr to b):Fz F.dE [.agg (cC a),.agg (cC b),.agg (cFd fr to)] (.v (.int .i64 (cmF fr to a b))):=by
 refine fn0 Cd.i_compareFields_k λX=>?_
 repeat' first|simp -dsimp only[go_sem,fH_E,aI,cC,cFd,List.replicate_succ,List.replicate_zero,List.flatten_cons,List.flatten_nil,List.cons_append,List.nil_append,List.set_cons_zero,List.set_cons_succ,List.length_cons,List.length_nil,List.length_set]|apply Br.mk<;>intro h<;>try simp -dsimp only[h]|refine RgK.mk rfl ?_|refine aD.c (by first|exact aAP _ _ (aAO H) ((kR H).trans (kR I).symm)) ?_|refine And.intro (by first|rfl|omega|decide|exact bS H|exact bS I|exact⟨rfl,bS H⟩|exact⟨rfl,bS I⟩|exact aW H|exact aW I|exact⟨rfl,aW H⟩|exact⟨rfl,aW I⟩|(refine⟨?_,?_⟩<;>(first|rfl|omega|decide|exact bS H|exact bS I|exact⟨rfl,bS H⟩|exact⟨rfl,bS I⟩|exact aW H|exact aW I|exact⟨rfl,aW H⟩|exact⟨rfl,aW I⟩))|(refine⟨?_,?_,?_⟩<;>(first|rfl|omega|decide|exact bS H|exact bS I|exact⟨rfl,bS H⟩|exact⟨rfl,bS I⟩|exact aW H|exact aW I|exact⟨rfl,aW H⟩|exact⟨rfl,aW I⟩))|(refine⟨?_,?_,?_,?_⟩<;>(first|rfl|omega|decide|exact bS H|exact bS I|exact⟨rfl,bS H⟩|exact⟨rfl,bS I⟩|exact aW H|exact aW I|exact⟨rfl,aW H⟩|exact⟨rfl,aW I⟩))) ?_|fail
 all_goals(simp_all [cmF])
theorem aKE (a:List Int) (fr to:Int) (H:okF fr to a):Fz F.sN [.agg (cC a),.agg (cFd fr to)] (.v (.bool (bU (fH fr to a)))):=by
 refine fn0 Cd.i_hasField_k λX=>?_
 repeat' first|simp -dsimp only[go_sem,fH_E,aI,cC,cFd,List.replicate_succ,List.replicate_zero,List.flatten_cons,List.flatten_nil,List.cons_append,List.nil_append,List.set_cons_zero,List.set_cons_succ,List.length_cons,List.length_nil,List.length_set]|apply Br.mk<;>intro h<;>try simp -dsimp only[h]|refine RgK.mk rfl ?_|refine aD.c (by first|exact aDy _ (aAO H)) ?_|refine And.intro (by first|rfl|omega|decide|exact bS H|exact⟨rfl,bS H⟩|exact aW H|exact⟨rfl,aW H⟩|(refine⟨?_,?_⟩<;>(first|rfl|omega|decide|exact bS H|exact⟨rfl,bS H⟩|exact aW H|exact⟨rfl,aW H⟩))|(refine⟨?_,?_,?_⟩<;>(first|rfl|omega|decide|exact bS H|exact⟨rfl,bS H⟩|exact aW H|exact⟨rfl,aW H⟩))|(refine⟨?_,?_,?_,?_⟩<;>(first|rfl|omega|decide|exact bS H|exact⟨rfl,bS H⟩|exact aW H|exact⟨rfl,aW H⟩))) ?_|fail
 all_goals(simp_all)
theorem aG7 (a:List Int) (fr to:Int) (H:okF fr to a):Fz F.dN [.agg (cC a),.ro (cFd fr to)] (.v (.bool (!bU (fH fr to a)))):=by
 refine fn0 Cd.i_haveField_1_k λX=>?_
 repeat' first|simp -dsimp only[go_sem,cC,cFd,List.replicate_succ,List.replicate_zero,List.flatten_cons,List.flatten_nil,List.cons_append,List.nil_append,List.set_cons_zero,List.set_cons_succ,List.length_cons,List.length_nil,List.length_set]|apply Br.mk<;>intro h<;>try simp -dsimp only[h]|refine aD.c (by first|exact aKE a fr to H) ?_|refine aC ?_|fail
 all_goals(simp_all)
theorem idxHF (l:List (List Int)) (fr to:Int) (I:∀c,c∈l->okF fr to c) (H:l.length<=1048576):Fz F.kX [.sl 1 (E cC l),.fn F.dN [.ro (cFd fr to)]] (.v (.int .i64 (uH (λc=>!bU (fH fr to c)) l))):=
 aG3 Tryz.mixed (k:=1) Cd.ixf_Card_k.o Cd.ixf_Card_k.n Cd.ixf_Card_k.r rfl (λc=>!bU (fH fr to c)) F.dN [.ro (cFd fr to)] rfl (λ_=>rfl) (λ_=>rfl) (λx J=>aG7 x fr to (I x J)) H
theorem conHF (l:List (List Int)) (fr to:Int) (I:∀c,c∈l->okF fr to c) (H:l.length<=1048576):Fz F.tC [.sl 1 (E cC l),.fn F.dN [.ro (cFd fr to)]] (.v (.bool (l.any (λc=>!bU (fH fr to c))))):=
 aGe Tryz.mixed (g:=F.kX) Cd.ctf_Card_k.o Cd.ctf_Card_k.n Cd.ctf_Card_k.r rfl (λc=>!bU (fH fr to c)) F.dN [.ro (cFd fr to)] rfl (idxHF l fr to I H)
theorem aEh (fr to:Int) (l:List (List Int)):(!l.any λc=>!bU (fH fr to c))=bP fr to l:=by
 unfold bP
 induction l with
 |nil=>rfl
 |cons x r ih=>simp only[List.any_cons,List.all_cons,Bool.not_or,Bool.not_not,ih]
theorem qY (l:List (List Int)) (fr to:Int) (I:∀c,c∈l->okF fr to c) (H:l.length<=1048576):Fz F.jY [.sl 1 (E cC l),.agg (cFd fr to)] (.v (.bool (bP fr to l))):=by
 refine fn0 Cd.i_haveField_k λX=>?_
 repeat' first|simp -dsimp only[go_sem,cFd]|apply Br.mk<;>intro h<;>try simp -dsimp only[h]|refine aD.c (by first|exact conHF l fr to I H) ?_|refine aC ?_|fail
 all_goals(first|(simp_all [aEh];done)|(refine aU ?_;have e:=aEh fr to l;simp_all))
theorem aI7 (a d:List Int) (fr to:Int) (H:okF fr to a) (I:okF fr to d):Fz F.fB [.agg (cC a),.ro (cC d),.ro (cFd fr to)] (.v (.bool (cmF fr to a d==0))):=by
 refine fn0 Cd.i_hasEqual_1_k λX=>?_
 repeat' first|simp -dsimp only[go_sem,cC,cFd,List.replicate_succ,List.replicate_zero,List.flatten_cons,List.flatten_nil,List.cons_append,List.nil_append,List.set_cons_zero,List.set_cons_succ,List.length_cons,List.length_nil,List.length_set]|apply Br.mk<;>intro h<;>try simp -dsimp only[h]|refine aD.c (by first|exact lH a d fr to H I) ?_|refine aC ?_|fail
 all_goals(simp_all)
theorem idxHE (l:List (List Int)) (fr to:Int) (d:List Int) (H:okF fr to d) (J:∀c,c∈l->okF fr to c) (I:l.length<=1048576):Fz F.kX [.sl 1 (E cC l),.fn F.fB [.ro (cC d),.ro (cFd fr to)]] (.v (.int .i64 (uH (λc=>cmF fr to c d==0) l))):=
 aG3 Tryz.mixed (k:=1) Cd.ixf_Card_k.o Cd.ixf_Card_k.n Cd.ixf_Card_k.r rfl (λc=>cmF fr to c d==0) F.fB [.ro (cC d),.ro (cFd fr to)] rfl (λ_=>rfl) (λ_=>rfl) (λx L=>aI7 x d fr to (J x L) H) I
theorem conHE (l:List (List Int)) (fr to:Int) (d:List Int) (H:okF fr to d) (J:∀c,c∈l->okF fr to c) (I:l.length<=1048576):Fz F.tC [.sl 1 (E cC l),.fn F.fB [.ro (cC d),.ro (cFd fr to)]] (.v (.bool (l.any (λc=>cmF fr to c d==0)))):=
 aGe Tryz.mixed (g:=F.kX) Cd.ctf_Card_k.o Cd.ctf_Card_k.n Cd.ctf_Card_k.r rfl (λc=>cmF fr to c d==0) F.fB [.ro (cC d),.ro (cFd fr to)] rfl (idxHE l fr to d H J I)
theorem aKF (l:List (List Int)) (d:List Int) (fr to:Int) (H:okF fr to d) (J:∀c,c∈l->okF fr to c) (I:l.length<=1048576):Fz F.sO [.sl 1 (E cC l),.agg (cC d),.agg (cFd fr to)] (.v (.bool (l.any (λc=>cmF fr to c d==0)))):=by
 refine fn0 Cd.i_hasEqual_k λX=>?_
 repeat' first|simp -dsimp only[go_sem,cFd,cC]|apply Br.mk<;>intro h<;>try simp -dsimp only[h]|refine aD.c (by first|exact conHE l fr to d H J I) ?_|refine aC ?_|fail
 all_goals(simp_all)
theorem aKv (a:List Int) (fr to:Int) (H:okF fr to a):Fz F.xI [.ro (cC a),.agg (cFd fr to)] (.tup [.v (.string (aCP (fH fr to a)).1),.v (.bool (aCP (fH fr to a)).2)]):=by
 refine fn0 Cd.s_l03Key_k λX=>?_
 repeat' first|simp -dsimp only[go_sem,cFd]|apply Br.mk<;>intro h<;>try simp -dsimp only[h]|refine aD.c (by first|exact part a fr to (aW H).1 (aW H).2.1 (aW H).2.2|exact aL6 (fH fr to a) (aAO H)) ?_|refine aC ?_|fail
 all_goals(simp_all)
def cSt (s:ByteArray):List AV:=[.v (.string s)]
def bK (fr to:Int) (l:List (List Int)):List ByteArray:=l.map λc=>txt (fH fr to c)
def aY (fr to:Int) (l:List (List Int)):Int:=if bA l then(if dR fr to (bF l) then(if bP fr to l then 0 else 8) else 2) else 1
def mV (fr to:Int) (l:List (List Int)):AV:=if aY fr to l=0 then .sl 1 (E cSt (bK fr to l)) else .v (.slice none 0 0)
theorem eF {l:List (List Int)}{fr to:Int} (L:bA l=true) (J:dR fr to (bF l)=true):∀c,c∈l->okF fr to c:=by
 intro c H;simp only[bA,Bool.and_eq_true,List.all_eq_true,decide_eq_true_eq] at L;simp only[dR,Bool.and_eq_true,decide_eq_true_eq] at J;obtain⟨F,I⟩:=L.1 c H;simp only[gL,inB,Bool.and_eq_true,List.all_eq_true,decide_eq_true_eq] at F;have O:l.length≠0:=by intro e;rw[List.eq_nil_of_length_eq_zero e] at H;cases H
 rw[bF,if_neg O,←I] at J;obtain⟨U,h2,Y⟩:=J;obtain⟨Z,h6,_⟩:=F;exact⟨U,h2,Y,by omega⟩
theorem aL8 {fr to:Int}{l:List (List Int)}{i:Nat} (hi:i<l.length):E cSt ((bK fr to l).take i)++[[.v (.string (txt (fH fr to l[i])))]]=E cSt ((bK fr to l).take (i+1)):=by
 have h2:i<(bK fr to l).length:=by simpa[bK] using hi
 rw[bB h2,aV];simp[E,cSt,bK]
theorem aMa {fr to:Int}{l:List (List Int)}{i:Nat} (hi:i<=l.length):((bK fr to l).take i).length=i:=by simp[bK];omega
theorem aH9 (fr to:Int) (l:List (List Int)):(bK fr to l).take l.length=bK fr to l:=List.take_of_length_le (by simp[bK])
attribute [local go_sem] List.replicate_succ List.replicate_zero List.flatten_cons List.flatten_nil List.cons_append List.nil_append List.set_cons_zero List.set_cons_succ List.length_cons List.length_nil List.length_set in
theorem jK (l:List (List Int)) (fr to:Int) (hs:∀x,x∈l->x.length<=1048576) (hl:l.length<=1048576):Fz F.iX [.sl 1 (E cC l),.agg (cFd fr to)] (.tup [mV fr to l,.v (.int .i64 (aY fr to l))]):=by
 cases hd:bA l
 .refine fn0 Cd.s_l07Keys_k λX=>?_
  repeat' first|simp -dsimp only[go_sem,cC,cFd,hd]|apply Br.mk<;>intro h<;>try simp -dsimp only[h]|refine aD.c (by first|exact cB l hs hl) ?_|refine aC ?_|fail
  all_goals simp[mV,aY,hd]
 cases hf:dR fr to (bF l)
 .refine fn0 Cd.s_l07Keys_k λX=>?_
  repeat' first|simp -dsimp only[go_sem,cC,cFd,hd,hf]|apply Br.mk<;>intro h<;>try simp -dsimp only[h]|refine aD.c (by first|exact cB l hs hl|exact dV l|exact dH fr to _) ?_|refine aC ?_|fail
  all_goals simp[mV,aY,hd,hf]
 have ho:=eF hd hf;refine fn0 Cd.s_l07Keys_k λX=>?_
 repeat' first|simp -dsimp only[go_sem,cC,cFd,hd,hf]|apply Br.mk<;>intro h<;>try simp -dsimp only[h]|refine aD.c (by first|exact cB l hs hl|exact dV l|exact dH fr to _) ?_|refine aC ?_|fail
 refine aN.at dM (X:={zz:Nat×(Unit) // zz.1<=l.length∧(l.take zz.1).all (λc=>bU (fH fr to c))=true}) (λzz=>[(6,.loc (.t 6 0) 0 zz.1.1),(7,.v (.int .i64 zz.1.1))]) (λzz=>[(.t 6 0,.arr 1 (E cSt ((bK fr to l).take zz.1.1)) false)]) (λzz=>l.length-zz.1.1) ⟨(0,()),by omega,by simp⟩ ?_ ?_
 .simp[Vs.LeL,Vs.look,Vs.aB,Vs.aR,Vs.aK,Vs.hset,Vs.aL,Vs.E]
 .rintro⟨⟨i,_⟩,hi,hg⟩;dsimp only at hi hg;simp -dsimp only[go_sem,cC,cFd];refine Br.mk (λhc=>?_) λhc=>?_
  .have hlt:i<l.length:=Dq;have hw:=aH hlt hl;have hk:=ho _ (List.getElem_mem hlt);have hap:=aL8 (fr:=fr) (to:=to) hlt;have hkl:=aMa (fr:=fr) (to:=to) (l:=l) (i:=i) (by omega);have hm:(E cC l).getD i []=[.sl 1 (E cI l[i])]:=aQ hlt;cases hb:bU (fH fr to l[i])
   .have e1:aCP (fH fr to l[i])=(⟨#[]⟩,false):=by simp[aCP,hb]
    have e2:bP fr to l=false:=gG (p:=λc=>bU (fH fr to c)) hlt hb
    repeat' first|simp -dsimp only[go_sem,hw,hm,e1,cC,cFd]|apply Br.mk<;>intro h<;>try simp -dsimp only[h]|refine aD.c (by first|exact aKv _ fr to hk) ?_|refine aC ?_|fail
    all_goals first|omega|(refine aU ?_;simp[mV,aY,hd,hf,e2];done)|(simp[mV,aY,hd,hf,e2];done)
   .have e1:aCP (fH fr to l[i])=(txt (fH fr to l[i]),true):=by simp[aCP,hb]
    repeat' first|simp -dsimp only[go_sem,hw,hm,e1,hap,hkl,aI,cC,cFd]|apply Br.mk<;>intro h<;>try simp -dsimp only[h]|refine aD.c (by first|exact aKv _ fr to hk) ?_|refine aC ?_|fail
    all_goals first|omega|(exact nx (i+1,()) (aX (p:=λc=>bU (fH fr to c)) hlt hg hb))
  .have hge:i=l.length:=by
    have:¬i<l.length:=Dq;omega
   subst hge;simp -dsimp only[go_sem,cC,cFd];have hall:bP fr to l=true:=by simpa[bP] using hg
   have hkl:(E cSt ((bK fr to l).take l.length)).take l.length=E cSt (bK fr to l):=by rw[aH9];exact List.take_of_length_le (by simp[Vs.E,bK])
   have hk2:(E cSt (bK fr to l)).take l.length=E cSt (bK fr to l):=List.take_of_length_le (by simp[Vs.E,bK]);simp[mV,aY,hd,hf,hall,hkl,hk2,aH9]
def stpTo (fr to:Int) (l:List (List Int)):Nat->List Int
 |0=>[]
 |i+1=>stpTo fr to l i++(if cmF fr to (l.getD (i+1) []) (l.getD i [])<0 then[((i+1:Nat):Int)] else[])
def stp (fr to:Int) (l:List (List Int)):List Int:=stpTo fr to l (l.length-1)
def iE (fr to:Int) (l:List (List Int)):Bool:=((stp fr to l).length:Int)==0
theorem aDI (fr to:Int) (l:List (List Int)):∀i,(stpTo fr to l i).length<=i
 |0=>by simp[stpTo]
 | i+1=>by
  have:=aDI fr to l i;rw[stpTo,List.length_append];split<;>simp<;>omega
theorem aMC {i n:Nat} (h:i<n-1) (F:n<=1048576):IntKind.i64.wrap (((i+1:Nat):Int)+1)=((i+1+1:Nat):Int):=by rw[aO (by omega) (by omega)];omega
theorem aMB {i n:Nat} (h:i<n-1) (F:n<=1048576):IntKind.i64.wrap (((i+1:Nat):Int)-1)=(i:Int):=by rw[aO (by omega) (by omega)];omega
attribute [local go_sem] List.replicate_succ List.replicate_zero List.flatten_cons List.flatten_nil List.cons_append List.nil_append List.set_cons_zero List.set_cons_succ List.length_cons List.length_nil List.length_set in
theorem steps (l:List (List Int)) (fr to:Int) (ho:∀c,c∈l->okF fr to c) (hl:l.length<=1048576):Fz F.aAH [.sl 1 (E cC l),.agg (cFd fr to)] (.sl 1 (E cI (stp fr to l))):=by
 refine fn0 Cd.i_steps_k λX=>?_;simp -dsimp only[go_sem,cC,cFd];refine⟨⟨by omega,by omega⟩,?_⟩;refine aN.at dM (X:={zz:Nat×(Unit) // zz.1<=l.length-1∧True}) (λzz=>[(5,.loc (.t 5 0) 0 (stpTo fr to l zz.1.1).length),(6,.v (.int .i64 ((zz.1.1+1:Nat):Int)))]) (λzz=>[(.t 5 0,.arr 1 (E cI (stpTo fr to l zz.1.1)) false)]) (λzz=>l.length-1-zz.1.1) ⟨(0,()),by omega,trivial⟩ ?_ ?_
 .simp[Vs.LeL,Vs.look,Vs.aB,Vs.aR,Vs.aK,Vs.hset,Vs.aL,Vs.E,stpTo]
 .rintro⟨⟨i,_⟩,hi,hg⟩;dsimp only at hi hg;simp -dsimp only[go_sem,cC,cFd];refine Br.mk (λhc=>?_) λhc=>?_
  .have hlt:i<l.length-1:=Dq;have hw:=aH hlt (by omega);have hl1:i+1<l.length:=by omega
   have hl0:i<l.length:=by omega
   have hk1:=ho _ (List.getElem_mem hl1);have hk0:=ho _ (List.getElem_mem hl0);have hm1:(E cC l).getD (i+1) []=[.sl 1 (E cI l[i+1])]:=aQ hl1;have hm0:(E cC l).getD i []=[.sl 1 (E cI l[i])]:=aQ hl0;have hw2:=aMC hlt hl;have hw3:=aMB hlt hl;have hsl:=aDI fr to l i;have g1:l.getD (i+1) []=l[i+1]:=by simp[List.getD,hl1]
   have g0:l.getD i []=l[i]:=by simp[List.getD,hl0]
   by_cases hz:cmF fr to l[i+1] l[i]<0
   .have e1:decide (cmF fr to l[i+1] l[i]<0)=true:=decide_eq_true hz;have hs:stpTo fr to l (i+1)=stpTo fr to l i++[((i+1:Nat):Int)]:=by rw[stpTo,g1,g0,if_pos hz]
    have hap:E cI (stpTo fr to l i)++[[.v (.int .i64 ((i+1:Nat):Int))]]=E cI (stpTo fr to l (i+1)):=by rw[hs,aV];rfl
    have hln:(stpTo fr to l (i+1)).length=(stpTo fr to l i).length+1:=by rw[hs];simp
    repeat' first|simp -dsimp only[go_sem,hw2,hw3,hm1,hm0,e1,hap,aI,cC,cFd]|apply Br.mk<;>intro h<;>try simp -dsimp only[h]|refine aD.c (by first|exact lH _ _ fr to hk1 hk0) ?_|refine aC ?_|fail
    all_goals first|omega|(exact nx (i+1,()) trivial (h2:=by simp[Vs.LeL,Vs.look,Vs.aB,Vs.aR,Vs.aK,Vs.hset,Vs.aL,hln]))
   .have e1:decide (cmF fr to l[i+1] l[i]<0)=false:=decide_eq_false hz;have hs:stpTo fr to l (i+1)=stpTo fr to l i:=by rw[stpTo,g1,g0,if_neg hz];simp
    repeat' first|simp -dsimp only[go_sem,hw2,hw3,hm1,hm0,e1,aI,cC,cFd]|apply Br.mk<;>intro h<;>try simp -dsimp only[h]|refine aD.c (by first|exact lH _ _ fr to hk1 hk0) ?_|refine aC ?_|fail
    all_goals first|omega|(exact nx (i+1,()) trivial (h2:=by simp[Vs.LeL,Vs.look,Vs.aB,Vs.aR,Vs.aK,Vs.hset,Vs.aL,hs]))
  .have hge:i=l.length-1:=by
    have:¬i<l.length-1:=Dq;omega
   subst hge;simp -dsimp only[go_sem,cC,cFd];exact⟨⟨_,_,rfl,rfl⟩,by simp⟩
theorem aT (l:List (List Int)) (fr to:Int) (I:∀c,c∈l->okF fr to c) (H:l.length<=1048576):Fz F.fD [.sl 1 (E cC l),.agg (cFd fr to)] (.v (.bool (iE fr to l))):=by
 refine fn0 Cd.i_isAscending_k λX=>?_
 repeat' first|simp -dsimp only[go_sem,cFd,aI]|apply Br.mk<;>intro h<;>try simp -dsimp only[h]|refine aD.c (by first|exact steps l fr to I H) ?_|refine aC ?_|fail
 all_goals(simp_all [iE])
end
end Go.Proofs.YtmiiohemehacjaaGreatDoor
