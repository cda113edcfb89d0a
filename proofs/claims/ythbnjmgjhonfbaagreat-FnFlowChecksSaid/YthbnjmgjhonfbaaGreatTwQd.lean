/- Fields of cards: comparisons, keys, steps down. -/
import Derived.Test.YthbnjmgjhonfbaaGreatTwK
import Derived.Test.YthbnjmgjhonfbaaGreatTuS
import Derived.Test.YthbnjmgjhonfbaaGreatTuF
import Derived.Test.YthbnjmgjhonfbaaGreatVtN
import Derived.Test.YthbnjmgjhonfbaaGreatTwQb
set_option linter.all false
set_option maxHeartbeats 8000000
namespace Go.Proofs.YthbnjmgjhonfbaaGreat
open Go.Vs
section
variable [Vs.Envs]
attribute [local irreducible] Vs.Fn
def cFd (fr to:Int):List AV:=[.v (.int .i64 fr),.v (.int .i64 to)]
def aT (l:List (List Int)):Int:=if l.length=0 then 20 else((l.getD 0 []).length:Int)
theorem dO (l:List (List Int)):Fz F.gG [.sl 1 (E cC l)] (.v (.int .i64 (aT l))):=by
 refine fn0 Cd.s_l07Width_k fun X=>?_;simp -dsimp only[go_sem,cC];by_cases h0:l.length=0
 ·have e1:((l.length:Int)==0)=true:=beq_iff_eq.2 (by omega)
  repeat' first|simp -dsimp only[go_sem,e1,cC]|apply Br.mk<;>intro h<;>try simp -dsimp only[h]|refine aC ?_|fail
  all_goals simp[aT,h0]
 ·have e1:((l.length:Int)==0)=false:=beq_eq_false_iff_ne.2 (by omega);have h1:0<l.length:=by omega
  have g0:(E cC l).getD 0 []=[.sl 1 (E cI l[0])]:=aX h1;have g1:l.getD 0 []=l[0]:=by simp[List.getD,h1]
  repeat' first|simp -dsimp only[go_sem,e1,g0,cC]|apply Br.mk<;>intro h<;>try simp -dsimp only[h]|refine aC ?_|fail
  all_goals simp_all [aT]
theorem iF (l:List (List Int)):Fz F.dD [.sl 1 (E cC l)] (.v (.int .i64 (aT l))):=by
 refine fn0 Cd.i_deckColumns_k fun X=>?_;simp -dsimp only[go_sem,cC];by_cases h0:l.length=0
 ·have e1:((l.length:Int)==0)=true:=beq_iff_eq.2 (by omega)
  repeat' first|simp -dsimp only[go_sem,e1,cC]|apply Br.mk<;>intro h<;>try simp -dsimp only[h]|refine aA.c (by first|exact qC l[0]) ?_|refine aC ?_|fail
  all_goals simp[aT,h0]
 ·have e1:((l.length:Int)==0)=false:=beq_eq_false_iff_ne.2 (by omega);have h1:0<l.length:=by omega
  have g0:(E cC l).getD 0 []=[.sl 1 (E cI l[0])]:=aX h1;have g1:l.getD 0 []=l[0]:=by simp[List.getD,h1]
  repeat' first|simp -dsimp only[go_sem,e1,g0,cC]|apply Br.mk<;>intro h<;>try simp -dsimp only[h]|refine aA.c (by first|exact qC l[0]) ?_|refine aC ?_|fail
  all_goals simp_all [aT]
def lU (fr to:Int) (c:List Int):Int×Bool:=wV ((c.take to.toNat).drop fr.toNat).dropLast (((c.take to.toNat).drop fr.toNat).getLastD 0)
def okP (fr to:Int) (c:List Int):Prop:=0≤fr∧fr<to∧to≤c.length∧to-fr≤12∧c.length≤20∧∀x,x∈c→0≤x∧x≤4095
theorem aEG {fr to:Int}{c:List Int} (h:okP fr to c):∃u x,(c.take to.toNat).drop fr.toNat=u++[x]∧u.length+1≤12∧0≤x∧x≤4095∧lU fr to c=wV u x:=by
 obtain⟨h0,h1,h2,h3,h4,h5⟩:=h;have hlen:((c.take to.toNat).drop fr.toNat).length=to.toNat-fr.toNat:=by simp;omega
 have hne:(c.take to.toNat).drop fr.toNat≠[]:=by intro e;rw[e] at hlen;simp at hlen;omega
 have hd:=List.dropLast_concat_getLast hne;have hx:=h5 (((c.take to.toNat).drop fr.toNat).getLast hne) (List.mem_of_mem_take (List.mem_of_mem_drop (List.getLast_mem hne)));refine⟨_,_,hd.symm,?_,hx.1,hx.2,?_⟩
 ·rw[List.length_dropLast,hlen];omega
 ·unfold lU;rw[List.getLastD_eq_getLast?,List.getLast?_eq_some_getLast hne];rfl
theorem aHv {fr to:Int}{c:List Int} (h:okP fr to c):Fz F.oF [.agg (cC c),.agg (cFd fr to)] (.tup [.v (.int .i64 (lU fr to c).1),.v (.bool (lU fr to c).2)]):=by
 obtain⟨u,x,hp,hu,_,_,hn⟩:=aEG h;obtain⟨h0,h1,h2,h3,h4,h5⟩:=h;rw[hn];exact aIP c fr to u x h0 (by omega) h2 hp hu
theorem zC {fr to:Int}{c:List Int} (h:okP fr to c):Fz F.l8 [.sl 1 (E cI ((c.take to.toNat).drop fr.toNat))] (.tup [.v (.int .i64 (lU fr to c).1),.v (.bool (lU fr to c).2)]):=by
 obtain⟨u,x,hp,hu,hx0,hx1,hn⟩:=aEG h;rw[hn,hp];exact aHL u x hx0 hx1 hu
theorem aIK {fr to:Int}{c:List Int} (h:okP fr to c):Fz F.nU [.ro (cC c),.agg (cFd fr to)] (.sl 1 (E cI ((c.take to.toNat).drop fr.toNat))):=by
 obtain⟨h0,h1,h2,h3,h4,h5⟩:=h;exact part c fr to h0 (by omega) h2
end
section
variable [Vs.Envs]
attribute [local irreducible] Vs.Fn cZ aW dB dC l03 chB rk cd3
attribute [local go_sem] List.replicate_succ List.replicate_zero List.flatten_cons List.flatten_nil List.cons_append List.nil_append List.set_cons_zero List.set_cons_succ List.length_cons List.length_nil List.length_set
theorem uL {l:List Int} (h:cK l=true) {i:Nat} (hi:i<l.length):0≤rk l[i]:=by
 simp only[cK,List.all_eq_true,decide_eq_true_eq] at h;exact h _ (List.getElem_mem hi)
theorem aGm {l:List Int}{i:Nat} (hi:i<l.length):E cU ((l.map chI).take i)++[[.v (.int .u8 (chI l[i]))]]=E cU ((l.map chI).take (i+1)):=by
 have h2:i<(l.map chI).length:=by simpa using hi
 rw[bL h2,aY];simp[E,cU]
theorem aGn {l:List Int}{i:Nat} (hi:i≤l.length):((l.map chI).take i).length=i:=by simp;omega
theorem aJF (m:Int):(chB (rk m).toNat:Int)=chI m:=rfl
theorem xW (l:List Int):uX ((l.map chI).take l.length)=txt l:=by unfold txt;rw[List.take_of_length_le (by simp)]
attribute [local irreducible] chI
theorem textOf (l:List Int) (hl:l.length≤1048576) (hh:cK l=true):Fz F.xA [.sl 1 (E cI l)] (.v (.string (txt l))):=by
 refine fn0 Cd.i_textOf_k fun X=>?_;simp -dsimp only[go_sem];refine⟨⟨by omega,by omega⟩,?_⟩;refine aN.at dM (X:={zz:Nat×(Unit) // zz.1≤l.length∧True}) (fun zz=>[(3,.loc (.t 3 0) 0 zz.1.1),(9,.v (.int .i64 zz.1.1))]) (fun zz=>[(.t 3 0,.arr 1 (E cU ((l.map chI).take zz.1.1)) false)]) (fun zz=>l.length-zz.1.1) ⟨(0,()),by omega,trivial⟩ ?_ ?_
 ·simp[Vs.LeL,Vs.look,Vs.aB,Vs.aP,Vs.aK,Vs.hset,Vs.aL,Vs.E]
 ·rintro⟨⟨i,_⟩,hi,hg⟩;dsimp only at hi hg;simp -dsimp only[go_sem,oZ,xW];refine Br.mk (fun hc=>?_) fun hc=>?_
  ·have hlt:i<l.length:=Dq;have hw:=aG hlt hl;have hr:=uL hh hlt;have hr2:=(aBY l[i]).2;have hap:=aGm hlt;have htl:=aGn (l:=l) (i:=i) (by omega)
   repeat' first|simp -dsimp only[go_sem,hw,dK hlt,chL,chS,aJF,hap,htl,aH]|apply Br.mk<;>intro h<;>try simp -dsimp only[h]|refine aA.c (by first|exact aB0 _) ?_|refine aC ?_|fail
   all_goals first|omega|(exact nx (i+1,()) trivial)
  ·have hge:i=l.length:=by
    have:¬i<l.length:=Dq;omega
   subst hge;simp -dsimp only[go_sem,oZ,xW];have ht:(E cU ((l.map chI).take l.length)).take l.length=E cU ((l.map chI).take l.length):=List.take_of_length_le (by simp[Vs.E]);simp[ht,oZ,xW]
def aCd (l:List Int):ByteArray×Bool:=if cK l then(txt l,true) else(⟨#[]⟩,false)
theorem aF0 {l:List Int}{i:Nat} (hi:i<l.length) (h:cK (l.take i)=true) (h2:0≤rk l[i]):cK (l.take (i+1))=true:=by
 unfold cK at h⊢;exact bE (p:=fun m=>decide (0≤rk m)) hi h (by simpa using h2)
theorem aDk {l:List Int}{i:Nat} (hi:i<l.length) (h2:¬0≤rk l[i]):cK l=false:=by
 unfold cK;exact gJ (p:=fun m=>decide (0≤rk m)) hi (by simpa using h2)
theorem aKO (l:List Int) (hl:l.length≤1048576):Fz F.tN [.sl 1 (E cI l)] (.tup [.v (.string (aCd l).1),.v (.bool (aCd l).2)]):=by
 refine fn0 Cd.s_l03Text_k fun X=>?_;simp -dsimp only[go_sem];refine⟨⟨by omega,by omega⟩,?_⟩;refine aN.at dM (X:={zz:Nat×(Unit) // zz.1≤l.length∧cK (l.take zz.1)=true}) (fun zz=>[(4,.loc (.t 4 0) 0 zz.1.1),(5,.v (.int .i64 zz.1.1))]) (fun zz=>[(.t 4 0,.arr 1 (E cU ((l.map chI).take zz.1.1)) false)]) (fun zz=>l.length-zz.1.1) ⟨(0,()),by omega,by simp[cK]⟩ ?_ ?_
 ·simp[Vs.LeL,Vs.look,Vs.aB,Vs.aP,Vs.aK,Vs.hset,Vs.aL,Vs.E]
 ·rintro⟨⟨i,_⟩,hi,hg⟩;dsimp only at hi hg;simp -dsimp only[go_sem,oZ,xW];refine Br.mk (fun hc=>?_) fun hc=>?_
  ·have hlt:i<l.length:=Dq;have hw:=aG hlt hl;have hr2:=(aBY l[i]).2;have hap:=aGm hlt;have htl:=aGn (l:=l) (i:=i) (by omega);by_cases hz:0≤rk l[i]
   ·have e1:aEY l[i]=(chI l[i],true):=by simp[aEY,hz]
    repeat' first|simp -dsimp only[go_sem,hw,dK hlt,e1,hap,htl,aH]|apply Br.mk<;>intro h<;>try simp -dsimp only[h]|refine aA.c (by first|exact aGO _) ?_|refine aC ?_|fail
    all_goals first|omega|(exact nx (i+1,()) (aF0 hlt hg hz))
   ·have e1:aEY l[i]=(0,false):=by simp[aEY,hz]
    repeat' first|simp -dsimp only[go_sem,hw,dK hlt,e1]|apply Br.mk<;>intro h<;>try simp -dsimp only[h]|refine aA.c (by first|exact aGO _) ?_|refine aC ?_|fail
    all_goals first|omega|(refine aO ?_;simp[aCd,aDk hlt hz];done)|(simp[aCd,aDk hlt hz];done)
  ·have hge:i=l.length:=by
    have:¬i<l.length:=Dq;omega
   subst hge;simp -dsimp only[go_sem,oZ,xW];have hh:cK l=true:=by simpa using hg
   have ht:(E cU ((l.map chI).take l.length)).take l.length=E cU ((l.map chI).take l.length):=List.take_of_length_le (by simp[Vs.E]);simp[ht,oZ,xW,aCd,hh]
def jC:List Int→List Int→Int
 |x::a,y::b=>if rk x<rk y then -1 else if rk x>rk y then 1 else jC a b
 |_,_=>0
theorem aDu {a b:List Int}{i:Nat} (ha:i<a.length) (hb:i<b.length):jC (a.drop i) (b.drop i)=if rk a[i]<rk b[i] then -1 else if rk a[i]>rk b[i] then 1 else jC (a.drop (i+1)) (b.drop (i+1)):=by
 rw[List.drop_eq_getElem_cons ha,List.drop_eq_getElem_cons hb,jC]
theorem aAE (a b:List Int) (hl:a.length≤1048576) (hab:a.length=b.length):Fz F.iV [.sl 1 (E cI a),.sl 1 (E cI b)] (.v (.int .i64 (jC a b))):=by
 refine fn0 Cd.i_compareHoles_k fun X=>?_;simp -dsimp only[go_sem];refine aN.at dM (X:={zz:Nat×(Unit) // zz.1≤a.length∧jC (a.drop zz.1) (b.drop zz.1)=jC a b}) (fun zz=>[(10,.v (.int .i64 zz.1.1))]) (fun zz=>[]) (fun zz=>a.length-zz.1.1) ⟨(0,()),by omega,by simp⟩ ?_ ?_
 ·exact le0
 ·rintro⟨⟨i,_⟩,hi,hg⟩;dsimp only at hi hg;simp -dsimp only[go_sem];refine Br.mk (fun hc=>?_) fun hc=>?_
  ·have hlt:i<a.length:=Dq;have hw:=aG hlt hl;have hlb:i<b.length:=by omega
   rw[aDu hlt hlb] at hg;by_cases h1:rk a[i]<rk b[i]
   ·have e1:decide (rk a[i]<rk b[i])=true:=decide_eq_true h1;rw[if_pos h1] at hg
    repeat' first|simp -dsimp only[go_sem,hw,dK hlt,dK hlb,e1]|apply Br.mk<;>intro h<;>try simp -dsimp only[h]|refine aA.c (by first|exact aB0 _) ?_|refine aC ?_|fail
    all_goals first|omega|(refine aO ?_;simp[←hg];done)|(simp[←hg];done)
   ·have e1:decide (rk a[i]<rk b[i])=false:=decide_eq_false h1;rw[if_neg h1] at hg;by_cases h2:rk a[i]>rk b[i]
    ·have e2:decide (rk a[i]>rk b[i])=true:=decide_eq_true h2;rw[if_pos h2] at hg
     repeat' first|simp -dsimp only[go_sem,hw,dK hlt,dK hlb,e1,e2]|apply Br.mk<;>intro h<;>try simp -dsimp only[h]|refine aA.c (by first|exact aB0 _) ?_|refine aC ?_|fail
     all_goals first|omega|(refine aO ?_;simp[←hg];done)|(simp[←hg];done)
    ·have e2:decide (rk a[i]>rk b[i])=false:=decide_eq_false h2;rw[if_neg h2] at hg
     repeat' first|simp -dsimp only[go_sem,hw,dK hlt,dK hlb,e1,e2]|apply Br.mk<;>intro h<;>try simp -dsimp only[h]|refine aA.c (by first|exact aB0 _) ?_|refine aC ?_|fail
     all_goals first|omega|(exact nx (i+1,()) hg)
  ·have hge:i=a.length:=by
    have:¬i<a.length:=Dq;omega
   subst hge;simp -dsimp only[go_sem]
   have hg2:jC a b=0:=by
    rw[←hg,List.drop_length];cases b.drop a.length<;>rfl
   simp[hg2]
theorem aBR (l:List Int):(txt l).size=l.length:=by simp[txt,uX,ByteArray.size]
theorem aDF {l:List Int} (h:cK l=true) {i:Nat} (hi:i<l.length):((txt l).data.toList.getD i 0).toNat=chB (rk l[i]).toNat:=by
 have h2:=aMg (rk l[i]).toNat (by have:=(aBY l[i]).2;omega);have h3:=aJF l[i];simp only[txt,uX,List.getD_eq_getElem?_getD,List.getElem?_map,List.getElem?_eq_getElem hi,Option.map_some,Option.getD_some,←h3,Int.toNat_natCast];rw[UInt8.toNat_ofNat',Nat.mod_eq_of_lt (by simpa using h2)]
theorem vI (a b:List Int) (hl:a.length≤1048576) (hab:a.length=b.length) (ha:cK a=true) (hb:cK b=true):Fz F.fM [.v (.string (txt a)),.v (.string (txt b))] (.v (.int .i64 (jC a b))):=by
 have hsa:=aBR a;have hsb:=aBR b;refine fn0 Cd.s_l03Compare_k fun X=>?_;simp -dsimp only[go_sem];refine aN.at dM (X:={zz:Nat×(Unit) // zz.1≤a.length∧jC (a.drop zz.1) (b.drop zz.1)=jC a b}) (fun zz=>[(5,.v (.int .i64 zz.1.1))]) (fun zz=>[]) (fun zz=>a.length-zz.1.1) ⟨(0,()),by omega,by simp⟩ ?_ ?_
 ·exact le0
 ·rintro⟨⟨i,_⟩,hi,hg⟩;dsimp only at hi hg;simp -dsimp only[go_sem,hsa,hsb];refine Br.mk (fun hc=>?_) fun hc=>?_
  ·have hlt:i<a.length:=Dq;have hw:=aG hlt hl;have hlb:i<b.length:=by omega
   rw[aDu hlt hlb] at hg;have ra:=uL ha hlt;have rb:=uL hb hlb;have ra2:=(aBY a[i]).2;have rb2:=(aBY b[i]).2;have ta:=aDF ha hlt;have tb:=aDF hb hlb;have na:((rk a[i]).toNat:Int)=rk a[i]:=by omega
   have nb:((rk b[i]).toNat:Int)=rk b[i]:=by omega
   by_cases h1:rk a[i]<rk b[i]
   ·have e1:decide (rk a[i]<rk b[i])=true:=decide_eq_true h1;rw[if_pos h1] at hg
    repeat' first|simp -dsimp only[go_sem,hw,dK hlt,dK hlb,e1,hsa,hsb,ta,tb,na,nb]|apply Br.mk<;>intro h<;>try simp -dsimp only[h]|refine aA.c (by first|exact aD0 _ (by omega)) ?_|refine aC ?_|fail
    all_goals first|omega|(refine aO ?_;simp[←hg];done)|(simp[←hg];done)
   ·have e1:decide (rk a[i]<rk b[i])=false:=decide_eq_false h1;rw[if_neg h1] at hg;by_cases h2:rk a[i]>rk b[i]
    ·have e2:decide (rk a[i]>rk b[i])=true:=decide_eq_true h2;rw[if_pos h2] at hg
     repeat' first|simp -dsimp only[go_sem,hw,dK hlt,dK hlb,e1,e2,hsa,hsb,ta,tb,na,nb]|apply Br.mk<;>intro h<;>try simp -dsimp only[h]|refine aA.c (by first|exact aD0 _ (by omega)) ?_|refine aC ?_|fail
     all_goals first|omega|(refine aO ?_;simp[←hg];done)|(simp[←hg];done)
    ·have e2:decide (rk a[i]>rk b[i])=false:=decide_eq_false h2;rw[if_neg h2] at hg
     repeat' first|simp -dsimp only[go_sem,hw,dK hlt,dK hlb,e1,e2,hsa,hsb,ta,tb,na,nb]|apply Br.mk<;>intro h<;>try simp -dsimp only[h]|refine aA.c (by first|exact aD0 _ (by omega)) ?_|refine aC ?_|fail
     all_goals first|omega|(exact nx (i+1,()) hg)
  ·have hge:i=a.length:=by
    have:¬i<a.length:=Dq;omega
   subst hge;simp -dsimp only[go_sem,hsa,hsb]
   have hg2:jC a b=0:=by
    rw[←hg,List.drop_length];cases b.drop a.length<;>rfl
   simp[hg2]
end
section
variable [Vs.Envs]
attribute [local irreducible] Vs.Fn cZ aW dB dC l03 chB rk cd3 chI
def fH (fr to:Int) (c:List Int):List Int:=(c.take to.toNat).drop fr.toNat
def okF (fr to:Int) (c:List Int):Prop:=0≤fr∧fr<to∧to≤c.length∧c.length≤20
theorem lC {fr to:Int}{c:List Int} (h:okF fr to c):(fH fr to c).length=to.toNat-fr.toNat:=by
 obtain⟨h0,h1,h2,h3⟩:=h;simp[fH];omega
theorem aAC {fr to:Int}{c:List Int} (h:okF fr to c):(fH fr to c).length≤1048576:=by
 have:=lC h;obtain⟨h0,h1,h2,h3⟩:=h;omega
theorem bZ {fr to:Int}{c:List Int} (h:okF fr to c):0≤fr∧fr≤to∧to≤((E cI c).length:Int):=by
 obtain⟨h0,h1,h2,h3⟩:=h;rw[aH];omega
theorem bF {fr to:Int}{c:List Int} (h:okF fr to c):0≤fr∧fr≤to∧to≤(c.length:Int):=by
 obtain⟨h0,h1,h2,h3⟩:=h;omega
theorem fH_E (fr to:Int) (c:List Int):((E cI c).take to.toNat).drop fr.toNat=E cI (fH fr to c):=by simp[fH,E,List.map_take,List.map_drop]
def cmF (fr to:Int) (a b:List Int):Int:=jC (fH fr to a) (fH fr to b)
def bI (fr to:Int) (l:List (List Int)):Bool:=l.all fun c=>cK (fH fr to c)
theorem lI (a b:List Int) (fr to:Int) (ha:okF fr to a) (hb:okF fr to b):Fz F.dQ [.agg (cC a),.agg (cC b),.agg (cFd fr to)] (.v (.int .i64 (cmF fr to a b))):=by
 refine fn0 Cd.i_compareFields_k fun X=>?_
 repeat' first|simp -dsimp only[go_sem,fH_E,aH,cC,cFd,List.replicate_succ,List.replicate_zero,List.flatten_cons,List.flatten_nil,List.cons_append,List.nil_append,List.set_cons_zero,List.set_cons_succ,List.length_cons,List.length_nil,List.length_set]|apply Br.mk<;>intro h<;>try simp -dsimp only[h]|refine RgK.mk rfl ?_|refine aA.c (by first|exact aAE _ _ (aAC ha) ((lC ha).trans (lC hb).symm)) ?_|refine And.intro (by first|rfl|omega|decide|exact bZ ha|exact bZ hb|exact⟨rfl,bZ ha⟩|exact⟨rfl,bZ hb⟩|exact bF ha|exact bF hb|exact⟨rfl,bF ha⟩|exact⟨rfl,bF hb⟩|(refine⟨?_,?_⟩<;>(first|rfl|omega|decide|exact bZ ha|exact bZ hb|exact⟨rfl,bZ ha⟩|exact⟨rfl,bZ hb⟩|exact bF ha|exact bF hb|exact⟨rfl,bF ha⟩|exact⟨rfl,bF hb⟩))|(refine⟨?_,?_,?_⟩<;>(first|rfl|omega|decide|exact bZ ha|exact bZ hb|exact⟨rfl,bZ ha⟩|exact⟨rfl,bZ hb⟩|exact bF ha|exact bF hb|exact⟨rfl,bF ha⟩|exact⟨rfl,bF hb⟩))|(refine⟨?_,?_,?_,?_⟩<;>(first|rfl|omega|decide|exact bZ ha|exact bZ hb|exact⟨rfl,bZ ha⟩|exact⟨rfl,bZ hb⟩|exact bF ha|exact bF hb|exact⟨rfl,bF ha⟩|exact⟨rfl,bF hb⟩))) ?_|fail
 all_goals(simp_all [cmF])
theorem aJe (a:List Int) (fr to:Int) (ha:okF fr to a):Fz F.rP [.agg (cC a),.agg (cFd fr to)] (.v (.bool (cK (fH fr to a)))):=by
 refine fn0 Cd.i_hasField_k fun X=>?_
 repeat' first|simp -dsimp only[go_sem,fH_E,aH,cC,cFd,List.replicate_succ,List.replicate_zero,List.flatten_cons,List.flatten_nil,List.cons_append,List.nil_append,List.set_cons_zero,List.set_cons_succ,List.length_cons,List.length_nil,List.length_set]|apply Br.mk<;>intro h<;>try simp -dsimp only[h]|refine RgK.mk rfl ?_|refine aA.c (by first|exact aCR _ (aAC ha)) ?_|refine And.intro (by first|rfl|omega|decide|exact bZ ha|exact⟨rfl,bZ ha⟩|exact bF ha|exact⟨rfl,bF ha⟩|(refine⟨?_,?_⟩<;>(first|rfl|omega|decide|exact bZ ha|exact⟨rfl,bZ ha⟩|exact bF ha|exact⟨rfl,bF ha⟩))|(refine⟨?_,?_,?_⟩<;>(first|rfl|omega|decide|exact bZ ha|exact⟨rfl,bZ ha⟩|exact bF ha|exact⟨rfl,bF ha⟩))|(refine⟨?_,?_,?_,?_⟩<;>(first|rfl|omega|decide|exact bZ ha|exact⟨rfl,bZ ha⟩|exact bF ha|exact⟨rfl,bF ha⟩))) ?_|fail
 all_goals(simp_all)
theorem aFZ (a:List Int) (fr to:Int) (ha:okF fr to a):Fz F.d9 [.agg (cC a),.ro (cFd fr to)] (.v (.bool (!cK (fH fr to a)))):=by
 refine fn0 Cd.i_haveField_1_k fun X=>?_
 repeat' first|simp -dsimp only[go_sem,cC,cFd,List.replicate_succ,List.replicate_zero,List.flatten_cons,List.flatten_nil,List.cons_append,List.nil_append,List.set_cons_zero,List.set_cons_succ,List.length_cons,List.length_nil,List.length_set]|apply Br.mk<;>intro h<;>try simp -dsimp only[h]|refine aA.c (by first|exact aJe a fr to ha) ?_|refine aC ?_|fail
 all_goals(simp_all)
theorem idxHF (l:List (List Int)) (fr to:Int) (ho:∀c,c∈l→okF fr to c) (hl:l.length≤1048576):Fz F.lF [.sl 1 (E cC l),.fn F.d9 [.ro (cFd fr to)]] (.v (.int .i64 (sD (fun c=>!cK (fH fr to c)) l))):=
 aD2 Tryz.mixed (k:=1) Cd.ixf_Card_k.o Cd.ixf_Card_k.n Cd.ixf_Card_k.r rfl (fun c=>!cK (fH fr to c)) F.d9 [.ro (cFd fr to)] rfl (fun _=>rfl) (fun _=>rfl) (fun x hx=>aFZ x fr to (ho x hx)) hl
theorem conHF (l:List (List Int)) (fr to:Int) (ho:∀c,c∈l→okF fr to c) (hl:l.length≤1048576):Fz F.rZ [.sl 1 (E cC l),.fn F.d9 [.ro (cFd fr to)]] (.v (.bool (l.any (fun c=>!cK (fH fr to c))))):=
 aDs Tryz.mixed (g:=F.lF) Cd.ctf_Card_k.o Cd.ctf_Card_k.n Cd.ctf_Card_k.r rfl (fun c=>!cK (fH fr to c)) F.d9 [.ro (cFd fr to)] rfl (idxHF l fr to ho hl)
theorem aDB (fr to:Int) (l:List (List Int)):(!l.any fun c=>!cK (fH fr to c))=bI fr to l:=by
 unfold bI
 induction l with
 |nil=>rfl
 |cons x r ih=>simp only[List.any_cons,List.all_cons,Bool.not_or,Bool.not_not,ih]
theorem oI (l:List (List Int)) (fr to:Int) (ho:∀c,c∈l→okF fr to c) (hl:l.length≤1048576):Fz F.iY [.sl 1 (E cC l),.agg (cFd fr to)] (.v (.bool (bI fr to l))):=by
 refine fn0 Cd.i_haveField_k fun X=>?_
 repeat' first|simp -dsimp only[go_sem,cFd]|apply Br.mk<;>intro h<;>try simp -dsimp only[h]|refine aA.c (by first|exact conHF l fr to ho hl) ?_|refine aC ?_|fail
 all_goals(first|(simp_all [aDB];done)|(refine aO ?_;have e:=aDB fr to l;simp_all))
theorem aHP (a d:List Int) (fr to:Int) (ha:okF fr to a) (hd:okF fr to d):Fz F.fP [.agg (cC a),.ro (cC d),.ro (cFd fr to)] (.v (.bool (cmF fr to a d==0))):=by
 refine fn0 Cd.i_hasEqual_1_k fun X=>?_
 repeat' first|simp -dsimp only[go_sem,cC,cFd,List.replicate_succ,List.replicate_zero,List.flatten_cons,List.flatten_nil,List.cons_append,List.nil_append,List.set_cons_zero,List.set_cons_succ,List.length_cons,List.length_nil,List.length_set]|apply Br.mk<;>intro h<;>try simp -dsimp only[h]|refine aA.c (by first|exact lI a d fr to ha hd) ?_|refine aC ?_|fail
 all_goals(simp_all)
theorem idxHE (l:List (List Int)) (fr to:Int) (d:List Int) (hd:okF fr to d) (ho:∀c,c∈l→okF fr to c) (hl:l.length≤1048576):Fz F.lF [.sl 1 (E cC l),.fn F.fP [.ro (cC d),.ro (cFd fr to)]] (.v (.int .i64 (sD (fun c=>cmF fr to c d==0) l))):=
 aD2 Tryz.mixed (k:=1) Cd.ixf_Card_k.o Cd.ixf_Card_k.n Cd.ixf_Card_k.r rfl (fun c=>cmF fr to c d==0) F.fP [.ro (cC d),.ro (cFd fr to)] rfl (fun _=>rfl) (fun _=>rfl) (fun x hx=>aHP x d fr to (ho x hx) hd) hl
theorem conHE (l:List (List Int)) (fr to:Int) (d:List Int) (hd:okF fr to d) (ho:∀c,c∈l→okF fr to c) (hl:l.length≤1048576):Fz F.rZ [.sl 1 (E cC l),.fn F.fP [.ro (cC d),.ro (cFd fr to)]] (.v (.bool (l.any (fun c=>cmF fr to c d==0)))):=
 aDs Tryz.mixed (g:=F.lF) Cd.ctf_Card_k.o Cd.ctf_Card_k.n Cd.ctf_Card_k.r rfl (fun c=>cmF fr to c d==0) F.fP [.ro (cC d),.ro (cFd fr to)] rfl (idxHE l fr to d hd ho hl)
theorem aJf (l:List (List Int)) (d:List Int) (fr to:Int) (hd:okF fr to d) (ho:∀c,c∈l→okF fr to c) (hl:l.length≤1048576):Fz F.rQ [.sl 1 (E cC l),.agg (cC d),.agg (cFd fr to)] (.v (.bool (l.any (fun c=>cmF fr to c d==0)))):=by
 refine fn0 Cd.i_hasEqual_k fun X=>?_
 repeat' first|simp -dsimp only[go_sem,cFd,cC]|apply Br.mk<;>intro h<;>try simp -dsimp only[h]|refine aA.c (by first|exact conHE l fr to d hd ho hl) ?_|refine aC ?_|fail
 all_goals(simp_all)
theorem aI3 (a:List Int) (fr to:Int) (ha:okF fr to a):Fz F.wM [.ro (cC a),.agg (cFd fr to)] (.tup [.v (.string (aCd (fH fr to a)).1),.v (.bool (aCd (fH fr to a)).2)]):=by
 refine fn0 Cd.s_l03Key_k fun X=>?_
 repeat' first|simp -dsimp only[go_sem,cFd]|apply Br.mk<;>intro h<;>try simp -dsimp only[h]|refine aA.c (by first|exact part a fr to (bF ha).1 (bF ha).2.1 (bF ha).2.2|exact aKO (fH fr to a) (aAC ha)) ?_|refine aC ?_|fail
 all_goals(simp_all)
def cSt (s:ByteArray):List AV:=[.v (.string s)]
def bS (fr to:Int) (l:List (List Int)):List ByteArray:=l.map fun c=>txt (fH fr to c)
def bG (fr to:Int) (l:List (List Int)):Int:=if aS l then(if dJ fr to (aT l) then(if bI fr to l then 0 else 8) else 2) else 1
def gY (fr to:Int) (l:List (List Int)):AV:=if bG fr to l=0 then .sl 1 (E cSt (bS fr to l)) else .v (.slice none 0 0)
theorem dW {l:List (List Int)}{fr to:Int} (hd:aS l=true) (hn:dJ fr to (aT l)=true):∀c,c∈l→okF fr to c:=by
 intro c hc;simp only[aS,Bool.and_eq_true,List.all_eq_true,decide_eq_true_eq] at hd;simp only[dJ,Bool.and_eq_true,decide_eq_true_eq] at hn;obtain⟨hcb,hcl⟩:=hd.1 c hc;simp only[gM,inB,Bool.and_eq_true,List.all_eq_true,decide_eq_true_eq] at hcb;have h0:l.length≠0:=by intro e;rw[List.eq_nil_of_length_eq_zero e] at hc;cases hc
 rw[aT,if_neg h0,←hcl] at hn;obtain⟨h1,h2,h3⟩:=hn;obtain⟨h5,h6,_⟩:=hcb;exact⟨h1,h2,h3,by omega⟩
theorem aKQ {fr to:Int}{l:List (List Int)}{i:Nat} (hi:i<l.length):E cSt ((bS fr to l).take i)++[[.v (.string (txt (fH fr to l[i])))]]=E cSt ((bS fr to l).take (i+1)):=by
 have h2:i<(bS fr to l).length:=by simpa[bS] using hi
 rw[bL h2,aY];simp[E,cSt,bS]
theorem aKS {fr to:Int}{l:List (List Int)}{i:Nat} (hi:i≤l.length):((bS fr to l).take i).length=i:=by simp[bS];omega
theorem aGR (fr to:Int) (l:List (List Int)):(bS fr to l).take l.length=bS fr to l:=List.take_of_length_le (by simp[bS])
attribute [local go_sem] List.replicate_succ List.replicate_zero List.flatten_cons List.flatten_nil List.cons_append List.nil_append List.set_cons_zero List.set_cons_succ List.length_cons List.length_nil List.length_set in
theorem j6 (l:List (List Int)) (fr to:Int) (hs:∀x,x∈l→x.length≤1048576) (hl:l.length≤1048576):Fz F.jN [.sl 1 (E cC l),.agg (cFd fr to)] (.tup [gY fr to l,.v (.int .i64 (bG fr to l))]):=by
 cases hd:aS l
 ·refine fn0 Cd.s_l07Keys_k fun X=>?_
  repeat' first|simp -dsimp only[go_sem,cC,cFd,hd]|apply Br.mk<;>intro h<;>try simp -dsimp only[h]|refine aA.c (by first|exact dG l hs hl) ?_|refine aC ?_|fail
  all_goals simp[gY,bG,hd]
 cases hf:dJ fr to (aT l)
 ·refine fn0 Cd.s_l07Keys_k fun X=>?_
  repeat' first|simp -dsimp only[go_sem,cC,cFd,hd,hf]|apply Br.mk<;>intro h<;>try simp -dsimp only[h]|refine aA.c (by first|exact dG l hs hl|exact dO l|exact dS fr to _) ?_|refine aC ?_|fail
  all_goals simp[gY,bG,hd,hf]
 have ho:=dW hd hf;refine fn0 Cd.s_l07Keys_k fun X=>?_
 repeat' first|simp -dsimp only[go_sem,cC,cFd,hd,hf]|apply Br.mk<;>intro h<;>try simp -dsimp only[h]|refine aA.c (by first|exact dG l hs hl|exact dO l|exact dS fr to _) ?_|refine aC ?_|fail
 refine aN.at dM (X:={zz:Nat×(Unit) // zz.1≤l.length∧(l.take zz.1).all (fun c=>cK (fH fr to c))=true}) (fun zz=>[(6,.loc (.t 6 0) 0 zz.1.1),(7,.v (.int .i64 zz.1.1))]) (fun zz=>[(.t 6 0,.arr 1 (E cSt ((bS fr to l).take zz.1.1)) false)]) (fun zz=>l.length-zz.1.1) ⟨(0,()),by omega,by simp⟩ ?_ ?_
 ·simp[Vs.LeL,Vs.look,Vs.aB,Vs.aP,Vs.aK,Vs.hset,Vs.aL,Vs.E]
 ·rintro⟨⟨i,_⟩,hi,hg⟩;dsimp only at hi hg;simp -dsimp only[go_sem,cC,cFd];refine Br.mk (fun hc=>?_) fun hc=>?_
  ·have hlt:i<l.length:=Dq;have hw:=aG hlt hl;have hk:=ho _ (List.getElem_mem hlt);have hap:=aKQ (fr:=fr) (to:=to) hlt;have hkl:=aKS (fr:=fr) (to:=to) (l:=l) (i:=i) (by omega);have hm:(E cC l).getD i []=[.sl 1 (E cI l[i])]:=aX hlt;cases hb:cK (fH fr to l[i])
   ·have e1:aCd (fH fr to l[i])=(⟨#[]⟩,false):=by simp[aCd,hb]
    have e2:bI fr to l=false:=gJ (p:=fun c=>cK (fH fr to c)) hlt hb
    repeat' first|simp -dsimp only[go_sem,hw,hm,e1,cC,cFd]|apply Br.mk<;>intro h<;>try simp -dsimp only[h]|refine aA.c (by first|exact aI3 _ fr to hk) ?_|refine aC ?_|fail
    all_goals first|omega|(refine aO ?_;simp[gY,bG,hd,hf,e2];done)|(simp[gY,bG,hd,hf,e2];done)
   ·have e1:aCd (fH fr to l[i])=(txt (fH fr to l[i]),true):=by simp[aCd,hb]
    repeat' first|simp -dsimp only[go_sem,hw,hm,e1,hap,hkl,aH,cC,cFd]|apply Br.mk<;>intro h<;>try simp -dsimp only[h]|refine aA.c (by first|exact aI3 _ fr to hk) ?_|refine aC ?_|fail
    all_goals first|omega|(exact nx (i+1,()) (bE (p:=fun c=>cK (fH fr to c)) hlt hg hb))
  ·have hge:i=l.length:=by
    have:¬i<l.length:=Dq;omega
   subst hge;simp -dsimp only[go_sem,cC,cFd];have hall:bI fr to l=true:=by simpa[bI] using hg
   have hkl:(E cSt ((bS fr to l).take l.length)).take l.length=E cSt (bS fr to l):=by rw[aGR];exact List.take_of_length_le (by simp[Vs.E,bS])
   have hk2:(E cSt (bS fr to l)).take l.length=E cSt (bS fr to l):=List.take_of_length_le (by simp[Vs.E,bS]);simp[gY,bG,hd,hf,hall,hkl,hk2,aGR]
def aZ (fr to:Int) (l:List (List Int)):Nat→List Int
 |0=>[]
 |i+1=>aZ fr to l i++(if cmF fr to (l.getD (i+1) []) (l.getD i [])<0 then[((i+1:Nat):Int)] else[])
def stp (fr to:Int) (l:List (List Int)):List Int:=aZ fr to l (l.length-1)
def iW (fr to:Int) (l:List (List Int)):Bool:=((stp fr to l).length:Int)==0
theorem aCX (fr to:Int) (l:List (List Int)):∀i,(aZ fr to l i).length≤i
 |0=>by simp[aZ]
 | i+1=>by
  have:=aCX fr to l i;rw[aZ,List.length_append];split<;>simp<;>omega
theorem aLm {i n:Nat} (h:i<n-1) (hn:n≤1048576):IntKind.i64.wrap (((i+1:Nat):Int)+1)=((i+1+1:Nat):Int):=by rw[aR (by omega) (by omega)];omega
theorem aLl {i n:Nat} (h:i<n-1) (hn:n≤1048576):IntKind.i64.wrap (((i+1:Nat):Int)-1)=(i:Int):=by rw[aR (by omega) (by omega)];omega
attribute [local go_sem] List.replicate_succ List.replicate_zero List.flatten_cons List.flatten_nil List.cons_append List.nil_append List.set_cons_zero List.set_cons_succ List.length_cons List.length_nil List.length_set in
theorem steps (l:List (List Int)) (fr to:Int) (ho:∀c,c∈l→okF fr to c) (hl:l.length≤1048576):Fz F.aAr [.sl 1 (E cC l),.agg (cFd fr to)] (.sl 1 (E cI (stp fr to l))):=by
 refine fn0 Cd.i_steps_k fun X=>?_;simp -dsimp only[go_sem,cC,cFd];refine⟨⟨by omega,by omega⟩,?_⟩;refine aN.at dM (X:={zz:Nat×(Unit) // zz.1≤l.length-1∧True}) (fun zz=>[(5,.loc (.t 5 0) 0 (aZ fr to l zz.1.1).length),(6,.v (.int .i64 ((zz.1.1+1:Nat):Int)))]) (fun zz=>[(.t 5 0,.arr 1 (E cI (aZ fr to l zz.1.1)) false)]) (fun zz=>l.length-1-zz.1.1) ⟨(0,()),by omega,trivial⟩ ?_ ?_
 ·simp[Vs.LeL,Vs.look,Vs.aB,Vs.aP,Vs.aK,Vs.hset,Vs.aL,Vs.E,aZ]
 ·rintro⟨⟨i,_⟩,hi,hg⟩;dsimp only at hi hg;simp -dsimp only[go_sem,cC,cFd];refine Br.mk (fun hc=>?_) fun hc=>?_
  ·have hlt:i<l.length-1:=Dq;have hw:=aG hlt (by omega);have hl1:i+1<l.length:=by omega
   have hl0:i<l.length:=by omega
   have hk1:=ho _ (List.getElem_mem hl1);have hk0:=ho _ (List.getElem_mem hl0);have hm1:(E cC l).getD (i+1) []=[.sl 1 (E cI l[i+1])]:=aX hl1;have hm0:(E cC l).getD i []=[.sl 1 (E cI l[i])]:=aX hl0;have hw2:=aLm hlt hl;have hw3:=aLl hlt hl;have hsl:=aCX fr to l i;have g1:l.getD (i+1) []=l[i+1]:=by simp[List.getD,hl1]
   have g0:l.getD i []=l[i]:=by simp[List.getD,hl0]
   by_cases hz:cmF fr to l[i+1] l[i]<0
   ·have e1:decide (cmF fr to l[i+1] l[i]<0)=true:=decide_eq_true hz;have hs:aZ fr to l (i+1)=aZ fr to l i++[((i+1:Nat):Int)]:=by rw[aZ,g1,g0,if_pos hz]
    have hap:E cI (aZ fr to l i)++[[.v (.int .i64 ((i+1:Nat):Int))]]=E cI (aZ fr to l (i+1)):=by rw[hs,aY];rfl
    have hln:(aZ fr to l (i+1)).length=(aZ fr to l i).length+1:=by rw[hs];simp
    repeat' first|simp -dsimp only[go_sem,hw2,hw3,hm1,hm0,e1,hap,aH,cC,cFd]|apply Br.mk<;>intro h<;>try simp -dsimp only[h]|refine aA.c (by first|exact lI _ _ fr to hk1 hk0) ?_|refine aC ?_|fail
    all_goals first|omega|(exact nx (i+1,()) trivial (h2:=by simp[Vs.LeL,Vs.look,Vs.aB,Vs.aP,Vs.aK,Vs.hset,Vs.aL,hln]))
   ·have e1:decide (cmF fr to l[i+1] l[i]<0)=false:=decide_eq_false hz;have hs:aZ fr to l (i+1)=aZ fr to l i:=by rw[aZ,g1,g0,if_neg hz];simp
    repeat' first|simp -dsimp only[go_sem,hw2,hw3,hm1,hm0,e1,aH,cC,cFd]|apply Br.mk<;>intro h<;>try simp -dsimp only[h]|refine aA.c (by first|exact lI _ _ fr to hk1 hk0) ?_|refine aC ?_|fail
    all_goals first|omega|(exact nx (i+1,()) trivial (h2:=by simp[Vs.LeL,Vs.look,Vs.aB,Vs.aP,Vs.aK,Vs.hset,Vs.aL,hs]))
  ·have hge:i=l.length-1:=by
    have:¬i<l.length-1:=Dq;omega
   subst hge;simp -dsimp only[go_sem,cC,cFd];exact⟨⟨_,_,rfl,rfl⟩,by simp⟩
theorem aV (l:List (List Int)) (fr to:Int) (ho:∀c,c∈l→okF fr to c) (hl:l.length≤1048576):Fz F.fT [.sl 1 (E cC l),.agg (cFd fr to)] (.v (.bool (iW fr to l))):=by
 refine fn0 Cd.i_isAscending_k fun X=>?_
 repeat' first|simp -dsimp only[go_sem,cFd,aH]|apply Br.mk<;>intro h<;>try simp -dsimp only[h]|refine aA.c (by first|exact steps l fr to ho hl) ?_|refine aC ?_|fail
 all_goals(simp_all [iW])
end
end Go.Proofs.YthbnjmgjhonfbaaGreat
