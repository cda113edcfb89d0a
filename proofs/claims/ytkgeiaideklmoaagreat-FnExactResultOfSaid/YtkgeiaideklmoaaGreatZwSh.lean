/- Cards are sorted: the program's way. -/
import Derived.Test.YtkgeiaideklmoaaGreatZwK
import Derived.Test.YtkgeiaideklmoaaGreatZuS
import Derived.Test.YtkgeiaideklmoaaGreatZuR
import Derived.Test.YtkgeiaideklmoaaGreatVtR
import Derived.Test.YtkgeiaideklmoaaGreatZwSf
set_option linter.all false
set_option maxHeartbeats 8000000
namespace Go.Proofs.YtkgeiaideklmoaaGreat
open Go.Vs
section
variable [Vs.Envs]
attribute [local irreducible] Vs.Fn
def cFd (fr to:Int):List AV:=[.v (.int .i64 fr),.v (.int .i64 to)]
def bD (l:List (List Int)):Int:=if l.length=0 then 20 else((l.getD 0 []).length:Int)
theorem dK (l:List (List Int)):Fz F.iJ [.sl 1 (E cC l)] (.v (.int .i64 (bD l))):=by
 refine fn0 Cd.s_l07Width_k fun X=>?_;simp -dsimp only[go_sem,cC];by_cases J:l.length=0
 ·have G:((l.length:Int)==0)=true:=beq_iff_eq.2 (by omega)
  repeat' first|simp -dsimp only[go_sem,G,cC]|apply Br.mk<;>intro h<;>try simp -dsimp only[h]|refine aC ?_|fail
  all_goals simp[bD,J]
 ·have G:((l.length:Int)==0)=false:=beq_eq_false_iff_ne.2 (by omega);have H:0<l.length:=by omega
  have I:(E cC l).getD 0 []=[.sl 1 (E cI l[0])]:=aS H;have L:l.getD 0 []=l[0]:=by simp[List.getD,H]
  repeat' first|simp -dsimp only[go_sem,G,I,cC]|apply Br.mk<;>intro h<;>try simp -dsimp only[h]|refine aC ?_|fail
  all_goals simp_all [bD]
theorem gN (l:List (List Int)):Fz F.dP [.sl 1 (E cC l)] (.v (.int .i64 (bD l))):=by
 refine fn0 Cd.i_deckColumns_k fun X=>?_;simp -dsimp only[go_sem,cC];by_cases J:l.length=0
 ·have G:((l.length:Int)==0)=true:=beq_iff_eq.2 (by omega)
  repeat' first|simp -dsimp only[go_sem,G,cC]|apply Br.mk<;>intro h<;>try simp -dsimp only[h]|refine aD.c (by first|exact vD l[0]) ?_|refine aC ?_|fail
  all_goals simp[bD,J]
 ·have G:((l.length:Int)==0)=false:=beq_eq_false_iff_ne.2 (by omega);have H:0<l.length:=by omega
  have I:(E cC l).getD 0 []=[.sl 1 (E cI l[0])]:=aS H;have L:l.getD 0 []=l[0]:=by simp[List.getD,H]
  repeat' first|simp -dsimp only[go_sem,G,I,cC]|apply Br.mk<;>intro h<;>try simp -dsimp only[h]|refine aD.c (by first|exact vD l[0]) ?_|refine aC ?_|fail
  all_goals simp_all [bD]
def kS (fr to:Int) (c:List Int):Int×Bool:=wG ((c.take to.toNat).drop fr.toNat).dropLast (((c.take to.toNat).drop fr.toNat).getLastD 0)
def okP (fr to:Int) (c:List Int):Prop:=0≤fr∧fr<to∧to≤c.length∧to-fr≤12∧c.length≤20∧∀x,x∈c→0≤x∧x≤4095
theorem aEv {fr to:Int}{c:List Int} (h:okP fr to c):∃u x,(c.take to.toNat).drop fr.toNat=u++[x]∧u.length+1≤12∧0≤x∧x≤4095∧kS fr to c=wG u x:=by
 obtain⟨L,M,h2,O,U,I⟩:=h;have F:((c.take to.toNat).drop fr.toNat).length=to.toNat-fr.toNat:=by simp;omega
 have G:(c.take to.toNat).drop fr.toNat≠[]:=by intro e;rw[e] at F;simp at F;omega
 have J:=List.dropLast_concat_getLast G;have H:=I (((c.take to.toNat).drop fr.toNat).getLast G) (List.mem_of_mem_take (List.mem_of_mem_drop (List.getLast_mem G)));refine⟨_,_,J.symm,?_,H.1,H.2,?_⟩
 ·rw[List.length_dropLast,F];omega
 ·unfold kS;rw[List.getLastD_eq_getLast?,List.getLast?_eq_some_getLast G];rfl
theorem aHs {fr to:Int}{c:List Int} (h:okP fr to c):Fz F.nR [.agg (cC c),.agg (cFd fr to)] (.tup [.v (.int .i64 (kS fr to c).1),.v (.bool (kS fr to c).2)]):=by
 obtain⟨u,x,I,J,_,_,H⟩:=aEv h;obtain⟨G,L,h2,M,O,U⟩:=h;rw[H];exact aIO c fr to u x G (by omega) h2 I J
theorem yO {fr to:Int}{c:List Int} (h:okP fr to c):Fz F.lT [.sl 1 (E cI ((c.take to.toNat).drop fr.toNat))] (.tup [.v (.int .i64 (kS fr to c).1),.v (.bool (kS fr to c).2)]):=by
 obtain⟨u,x,J,L,G,H,I⟩:=aEv h;rw[I,J];exact aHG u x G H L
theorem aIK {fr to:Int}{c:List Int} (h:okP fr to c):Fz F.nJ [.ro (cC c),.agg (cFd fr to)] (.sl 1 (E cI ((c.take to.toNat).drop fr.toNat))):=by
 obtain⟨G,H,h2,I,J,L⟩:=h;exact part c fr to G (by omega) h2
end
section
variable [Vs.Envs]
attribute [local irreducible] Vs.Fn chOK areCh chTo chAt l03 chB rk cd3
attribute [local go_sem] List.replicate_succ List.replicate_zero List.flatten_cons List.flatten_nil List.cons_append List.nil_append List.set_cons_zero List.set_cons_succ List.length_cons List.length_nil List.length_set
theorem uE {l:List Int} (h:bY l=true) {i:Nat} (hi:i<l.length):0≤rk l[i]:=by
 simp only[bY,List.all_eq_true,decide_eq_true_eq] at h;exact h _ (List.getElem_mem hi)
theorem aGi {l:List Int}{i:Nat} (hi:i<l.length):E cU ((l.map chI).take i)++[[.v (.int .u8 (chI l[i]))]]=E cU ((l.map chI).take (i+1)):=by
 have h2:i<(l.map chI).length:=by simpa using hi
 rw[bJ h2,aY];simp[E,cU]
theorem aGj {l:List Int}{i:Nat} (hi:i≤l.length):((l.map chI).take i).length=i:=by simp;omega
theorem aJw (m:Int):(chB (rk m).toNat:Int)=chI m:=rfl
theorem xC (l:List Int):aBE ((l.map chI).take l.length)=txt l:=by unfold txt;rw[List.take_of_length_le (by simp)]
attribute [local irreducible] chI
theorem textOf (l:List Int) (hl:l.length≤1048576) (hh:bY l=true):Fz F.wM [.sl 1 (E cI l)] (.v (.string (txt l))):=by
 refine fn0 Cd.i_textOf_k fun X=>?_;simp -dsimp only[go_sem];refine⟨⟨by omega,by omega⟩,?_⟩;refine aN.at dM (X:={zz:Nat×(Unit) // zz.1≤l.length∧True}) (fun zz=>[(3,.loc (.t 3 0) 0 zz.1.1),(9,.v (.int .i64 zz.1.1))]) (fun zz=>[(.t 3 0,.arr 1 (E cU ((l.map chI).take zz.1.1)) false)]) (fun zz=>l.length-zz.1.1) ⟨(0,()),by omega,trivial⟩ ?_ ?_
 ·simp[Vs.LeL,Vs.look,Vs.aB,Vs.aQ,Vs.aL,Vs.hset,Vs.aM,Vs.E]
 ·rintro⟨⟨i,_⟩,hi,hg⟩;dsimp only at hi hg;simp -dsimp only[go_sem,qR,xC];refine Br.mk (fun hc=>?_) fun hc=>?_
  ·have hlt:i<l.length:=Dq;have hw:=aH hlt hl;have hr:=uE hh hlt;have hr2:=(aBJ l[i]).2;have hap:=aGi hlt;have htl:=aGj (l:=l) (i:=i) (by omega)
   repeat' first|simp -dsimp only[go_sem,hw,cZ hlt,chL,chS,aJw,hap,htl,aI]|apply Br.mk<;>intro h<;>try simp -dsimp only[h]|refine aD.c (by first|exact aBL _) ?_|refine aC ?_|fail
   all_goals first|omega|(exact nx (i+1,()) trivial)
  ·have hge:i=l.length:=by
    have:¬i<l.length:=Dq;omega
   subst hge;simp -dsimp only[go_sem,qR,xC];have ht:(E cU ((l.map chI).take l.length)).take l.length=E cU ((l.map chI).take l.length):=List.take_of_length_le (by simp[Vs.E]);simp[ht,qR,xC]
def aB0 (l:List Int):ByteArray×Bool:=if bY l then(txt l,true) else(⟨#[]⟩,false)
theorem aFS {l:List Int}{i:Nat} (hi:i<l.length) (h:bY (l.take i)=true) (h2:0≤rk l[i]):bY (l.take (i+1))=true:=by
 unfold bY at h⊢;exact aZ (p:=fun m=>decide (0≤rk m)) hi h (by simpa using h2)
theorem aCX {l:List Int}{i:Nat} (hi:i<l.length) (h2:¬0≤rk l[i]):bY l=false:=by
 unfold bY;exact fT (p:=fun m=>decide (0≤rk m)) hi (by simpa using h2)
theorem aKt (l:List Int) (hl:l.length≤1048576):Fz F.sW [.sl 1 (E cI l)] (.tup [.v (.string (aB0 l).1),.v (.bool (aB0 l).2)]):=by
 refine fn0 Cd.s_l03Text_k fun X=>?_;simp -dsimp only[go_sem];refine⟨⟨by omega,by omega⟩,?_⟩;refine aN.at dM (X:={zz:Nat×(Unit) // zz.1≤l.length∧bY (l.take zz.1)=true}) (fun zz=>[(4,.loc (.t 4 0) 0 zz.1.1),(5,.v (.int .i64 zz.1.1))]) (fun zz=>[(.t 4 0,.arr 1 (E cU ((l.map chI).take zz.1.1)) false)]) (fun zz=>l.length-zz.1.1) ⟨(0,()),by omega,by simp[bY]⟩ ?_ ?_
 ·simp[Vs.LeL,Vs.look,Vs.aB,Vs.aQ,Vs.aL,Vs.hset,Vs.aM,Vs.E]
 ·rintro⟨⟨i,_⟩,hi,hg⟩;dsimp only at hi hg;simp -dsimp only[go_sem,qR,xC];refine Br.mk (fun hc=>?_) fun hc=>?_
  ·have hlt:i<l.length:=Dq;have hw:=aH hlt hl;have hr2:=(aBJ l[i]).2;have hap:=aGi hlt;have htl:=aGj (l:=l) (i:=i) (by omega);by_cases hz:0≤rk l[i]
   ·have e1:aEN l[i]=(chI l[i],true):=by simp[aEN,hz]
    repeat' first|simp -dsimp only[go_sem,hw,cZ hlt,e1,hap,htl,aI]|apply Br.mk<;>intro h<;>try simp -dsimp only[h]|refine aD.c (by first|exact aGM _) ?_|refine aC ?_|fail
    all_goals first|omega|(exact nx (i+1,()) (aFS hlt hg hz))
   ·have e1:aEN l[i]=(0,false):=by simp[aEN,hz]
    repeat' first|simp -dsimp only[go_sem,hw,cZ hlt,e1]|apply Br.mk<;>intro h<;>try simp -dsimp only[h]|refine aD.c (by first|exact aGM _) ?_|refine aC ?_|fail
    all_goals first|omega|(refine aV ?_;simp[aB0,aCX hlt hz];done)|(simp[aB0,aCX hlt hz];done)
  ·have hge:i=l.length:=by
    have:¬i<l.length:=Dq;omega
   subst hge;simp -dsimp only[go_sem,qR,xC];have hh:bY l=true:=by simpa using hg
   have ht:(E cU ((l.map chI).take l.length)).take l.length=E cU ((l.map chI).take l.length):=List.take_of_length_le (by simp[Vs.E]);simp[ht,qR,xC,aB0,hh]
def iR:List Int→List Int→Int
 |x::a,y::b=>if rk x<rk y then -1 else if rk x>rk y then 1 else iR a b
 |_,_=>0
theorem aC3 {a b:List Int}{i:Nat} (F:i<a.length) (G:i<b.length):iR (a.drop i) (b.drop i)=if rk a[i]<rk b[i] then -1 else if rk a[i]>rk b[i] then 1 else iR (a.drop (i+1)) (b.drop (i+1)):=by
 rw[List.drop_eq_getElem_cons F,List.drop_eq_getElem_cons G,iR]
theorem aAn (a b:List Int) (hl:a.length≤1048576) (hab:a.length=b.length):Fz F.iE [.sl 1 (E cI a),.sl 1 (E cI b)] (.v (.int .i64 (iR a b))):=by
 refine fn0 Cd.i_compareHoles_k fun X=>?_;simp -dsimp only[go_sem];refine aN.at dM (X:={zz:Nat×(Unit) // zz.1≤a.length∧iR (a.drop zz.1) (b.drop zz.1)=iR a b}) (fun zz=>[(10,.v (.int .i64 zz.1.1))]) (fun zz=>[]) (fun zz=>a.length-zz.1.1) ⟨(0,()),by omega,by simp⟩ ?_ ?_
 ·exact le0
 ·rintro⟨⟨i,_⟩,hi,hg⟩;dsimp only at hi hg;simp -dsimp only[go_sem];refine Br.mk (fun hc=>?_) fun hc=>?_
  ·have hlt:i<a.length:=Dq;have hw:=aH hlt hl;have hlb:i<b.length:=by omega
   rw[aC3 hlt hlb] at hg;by_cases h1:rk a[i]<rk b[i]
   ·have e1:decide (rk a[i]<rk b[i])=true:=decide_eq_true h1;rw[if_pos h1] at hg
    repeat' first|simp -dsimp only[go_sem,hw,cZ hlt,cZ hlb,e1]|apply Br.mk<;>intro h<;>try simp -dsimp only[h]|refine aD.c (by first|exact aBL _) ?_|refine aC ?_|fail
    all_goals first|omega|(refine aV ?_;simp[←hg];done)|(simp[←hg];done)
   ·have e1:decide (rk a[i]<rk b[i])=false:=decide_eq_false h1;rw[if_neg h1] at hg;by_cases h2:rk a[i]>rk b[i]
    ·have e2:decide (rk a[i]>rk b[i])=true:=decide_eq_true h2;rw[if_pos h2] at hg
     repeat' first|simp -dsimp only[go_sem,hw,cZ hlt,cZ hlb,e1,e2]|apply Br.mk<;>intro h<;>try simp -dsimp only[h]|refine aD.c (by first|exact aBL _) ?_|refine aC ?_|fail
     all_goals first|omega|(refine aV ?_;simp[←hg];done)|(simp[←hg];done)
    ·have e2:decide (rk a[i]>rk b[i])=false:=decide_eq_false h2;rw[if_neg h2] at hg
     repeat' first|simp -dsimp only[go_sem,hw,cZ hlt,cZ hlb,e1,e2]|apply Br.mk<;>intro h<;>try simp -dsimp only[h]|refine aD.c (by first|exact aBL _) ?_|refine aC ?_|fail
     all_goals first|omega|(exact nx (i+1,()) hg)
  ·have hge:i=a.length:=by
    have:¬i<a.length:=Dq;omega
   subst hge;simp -dsimp only[go_sem]
   have hg2:iR a b=0:=by
    rw[←hg,List.drop_length];cases b.drop a.length<;>rfl
   simp[hg2]
theorem aBB (l:List Int):(txt l).size=l.length:=by simp[txt,aBE,ByteArray.size]
theorem aDj {l:List Int} (h:bY l=true) {i:Nat} (hi:i<l.length):((txt l).data.toList.getD i 0).toNat=chB (rk l[i]).toNat:=by
 have h2:=aLQ (rk l[i]).toNat (by have:=(aBJ l[i]).2;omega);have F:=aJw l[i];simp only[txt,aBE,List.getD_eq_getElem?_getD,List.getElem?_map,List.getElem?_eq_getElem hi,Option.map_some,Option.getD_some,←F,Int.toNat_natCast];rw[UInt8.toNat_ofNat',Nat.mod_eq_of_lt (by simpa using h2)]
theorem uW (a b:List Int) (hl:a.length≤1048576) (hab:a.length=b.length) (ha:bY a=true) (hb:bY b=true):Fz F.eZ [.v (.string (txt a)),.v (.string (txt b))] (.v (.int .i64 (iR a b))):=by
 have hsa:=aBB a;have hsb:=aBB b;refine fn0 Cd.s_l03Compare_k fun X=>?_;simp -dsimp only[go_sem];refine aN.at dM (X:={zz:Nat×(Unit) // zz.1≤a.length∧iR (a.drop zz.1) (b.drop zz.1)=iR a b}) (fun zz=>[(5,.v (.int .i64 zz.1.1))]) (fun zz=>[]) (fun zz=>a.length-zz.1.1) ⟨(0,()),by omega,by simp⟩ ?_ ?_
 ·exact le0
 ·rintro⟨⟨i,_⟩,hi,hg⟩;dsimp only at hi hg;simp -dsimp only[go_sem,hsa,hsb];refine Br.mk (fun hc=>?_) fun hc=>?_
  ·have hlt:i<a.length:=Dq;have hw:=aH hlt hl;have hlb:i<b.length:=by omega
   rw[aC3 hlt hlb] at hg;have ra:=uE ha hlt;have rb:=uE hb hlb;have ra2:=(aBJ a[i]).2;have rb2:=(aBJ b[i]).2;have ta:=aDj ha hlt;have tb:=aDj hb hlb;have na:((rk a[i]).toNat:Int)=rk a[i]:=by omega
   have nb:((rk b[i]).toNat:Int)=rk b[i]:=by omega
   by_cases h1:rk a[i]<rk b[i]
   ·have e1:decide (rk a[i]<rk b[i])=true:=decide_eq_true h1;rw[if_pos h1] at hg
    repeat' first|simp -dsimp only[go_sem,hw,cZ hlt,cZ hlb,e1,hsa,hsb,ta,tb,na,nb]|apply Br.mk<;>intro h<;>try simp -dsimp only[h]|refine aD.c (by first|exact aDK _ (by omega)) ?_|refine aC ?_|fail
    all_goals first|omega|(refine aV ?_;simp[←hg];done)|(simp[←hg];done)
   ·have e1:decide (rk a[i]<rk b[i])=false:=decide_eq_false h1;rw[if_neg h1] at hg;by_cases h2:rk a[i]>rk b[i]
    ·have e2:decide (rk a[i]>rk b[i])=true:=decide_eq_true h2;rw[if_pos h2] at hg
     repeat' first|simp -dsimp only[go_sem,hw,cZ hlt,cZ hlb,e1,e2,hsa,hsb,ta,tb,na,nb]|apply Br.mk<;>intro h<;>try simp -dsimp only[h]|refine aD.c (by first|exact aDK _ (by omega)) ?_|refine aC ?_|fail
     all_goals first|omega|(refine aV ?_;simp[←hg];done)|(simp[←hg];done)
    ·have e2:decide (rk a[i]>rk b[i])=false:=decide_eq_false h2;rw[if_neg h2] at hg
     repeat' first|simp -dsimp only[go_sem,hw,cZ hlt,cZ hlb,e1,e2,hsa,hsb,ta,tb,na,nb]|apply Br.mk<;>intro h<;>try simp -dsimp only[h]|refine aD.c (by first|exact aDK _ (by omega)) ?_|refine aC ?_|fail
     all_goals first|omega|(exact nx (i+1,()) hg)
  ·have hge:i=a.length:=by
    have:¬i<a.length:=Dq;omega
   subst hge;simp -dsimp only[go_sem,hsa,hsb]
   have hg2:iR a b=0:=by
    rw[←hg,List.drop_length];cases b.drop a.length<;>rfl
   simp[hg2]
end
section
variable [Vs.Envs]
attribute [local irreducible] Vs.Fn chOK areCh chTo chAt l03 chB rk cd3 chI
def fH (fr to:Int) (c:List Int):List Int:=(c.take to.toNat).drop fr.toNat
def okF (fr to:Int) (c:List Int):Prop:=0≤fr∧fr<to∧to≤c.length∧c.length≤20
theorem kQ {fr to:Int}{c:List Int} (h:okF fr to c):(fH fr to c).length=to.toNat-fr.toNat:=by
 obtain⟨F,G,h2,H⟩:=h;simp[fH];omega
theorem aAl {fr to:Int}{c:List Int} (h:okF fr to c):(fH fr to c).length≤1048576:=by
 have:=kQ h;obtain⟨F,G,h2,H⟩:=h;omega
theorem bV {fr to:Int}{c:List Int} (h:okF fr to c):0≤fr∧fr≤to∧to≤((E cI c).length:Int):=by
 obtain⟨F,G,h2,H⟩:=h;rw[aI];omega
theorem bA {fr to:Int}{c:List Int} (h:okF fr to c):0≤fr∧fr≤to∧to≤(c.length:Int):=by
 obtain⟨F,G,h2,H⟩:=h;omega
theorem fH_E (fr to:Int) (c:List Int):((E cI c).take to.toNat).drop fr.toNat=E cI (fH fr to c):=by simp[fH,E,List.map_take,List.map_drop]
def cmF (fr to:Int) (a b:List Int):Int:=iR (fH fr to a) (fH fr to b)
def bP (fr to:Int) (l:List (List Int)):Bool:=l.all fun c=>bY (fH fr to c)
theorem kZ (a b:List Int) (fr to:Int) (G:okF fr to a) (H:okF fr to b):Fz F.dH [.agg (cC a),.agg (cC b),.agg (cFd fr to)] (.v (.int .i64 (cmF fr to a b))):=by
 refine fn0 Cd.i_compareFields_k fun X=>?_
 repeat' first|simp -dsimp only[go_sem,fH_E,aI,cC,cFd,List.replicate_succ,List.replicate_zero,List.flatten_cons,List.flatten_nil,List.cons_append,List.nil_append,List.set_cons_zero,List.set_cons_succ,List.length_cons,List.length_nil,List.length_set]|apply Br.mk<;>intro h<;>try simp -dsimp only[h]|refine RgK.mk rfl ?_|refine aD.c (by first|exact aAn _ _ (aAl G) ((kQ G).trans (kQ H).symm)) ?_|refine And.intro (by first|rfl|omega|decide|exact bV G|exact bV H|exact⟨rfl,bV G⟩|exact⟨rfl,bV H⟩|exact bA G|exact bA H|exact⟨rfl,bA G⟩|exact⟨rfl,bA H⟩|(refine⟨?_,?_⟩<;>(first|rfl|omega|decide|exact bV G|exact bV H|exact⟨rfl,bV G⟩|exact⟨rfl,bV H⟩|exact bA G|exact bA H|exact⟨rfl,bA G⟩|exact⟨rfl,bA H⟩))|(refine⟨?_,?_,?_⟩<;>(first|rfl|omega|decide|exact bV G|exact bV H|exact⟨rfl,bV G⟩|exact⟨rfl,bV H⟩|exact bA G|exact bA H|exact⟨rfl,bA G⟩|exact⟨rfl,bA H⟩))|(refine⟨?_,?_,?_,?_⟩<;>(first|rfl|omega|decide|exact bV G|exact bV H|exact⟨rfl,bV G⟩|exact⟨rfl,bV H⟩|exact bA G|exact bA H|exact⟨rfl,bA G⟩|exact⟨rfl,bA H⟩))) ?_|fail
 all_goals(simp_all [cmF])
theorem aJb (a:List Int) (fr to:Int) (G:okF fr to a):Fz F.rF [.agg (cC a),.agg (cFd fr to)] (.v (.bool (bY (fH fr to a)))):=by
 refine fn0 Cd.i_hasField_k fun X=>?_
 repeat' first|simp -dsimp only[go_sem,fH_E,aI,cC,cFd,List.replicate_succ,List.replicate_zero,List.flatten_cons,List.flatten_nil,List.cons_append,List.nil_append,List.set_cons_zero,List.set_cons_succ,List.length_cons,List.length_nil,List.length_set]|apply Br.mk<;>intro h<;>try simp -dsimp only[h]|refine RgK.mk rfl ?_|refine aD.c (by first|exact aCx _ (aAl G)) ?_|refine And.intro (by first|rfl|omega|decide|exact bV G|exact⟨rfl,bV G⟩|exact bA G|exact⟨rfl,bA G⟩|(refine⟨?_,?_⟩<;>(first|rfl|omega|decide|exact bV G|exact⟨rfl,bV G⟩|exact bA G|exact⟨rfl,bA G⟩))|(refine⟨?_,?_,?_⟩<;>(first|rfl|omega|decide|exact bV G|exact⟨rfl,bV G⟩|exact bA G|exact⟨rfl,bA G⟩))|(refine⟨?_,?_,?_,?_⟩<;>(first|rfl|omega|decide|exact bV G|exact⟨rfl,bV G⟩|exact bA G|exact⟨rfl,bA G⟩))) ?_|fail
 all_goals(simp_all)
theorem aFR (a:List Int) (fr to:Int) (G:okF fr to a):Fz F.dO [.agg (cC a),.ro (cFd fr to)] (.v (.bool (!bY (fH fr to a)))):=by
 refine fn0 Cd.i_haveField_1_k fun X=>?_
 repeat' first|simp -dsimp only[go_sem,cC,cFd,List.replicate_succ,List.replicate_zero,List.flatten_cons,List.flatten_nil,List.cons_append,List.nil_append,List.set_cons_zero,List.set_cons_succ,List.length_cons,List.length_nil,List.length_set]|apply Br.mk<;>intro h<;>try simp -dsimp only[h]|refine aD.c (by first|exact aJb a fr to G) ?_|refine aC ?_|fail
 all_goals(simp_all)
theorem idxHF (l:List (List Int)) (fr to:Int) (ho:∀c,c∈l→okF fr to c) (G:l.length≤1048576):Fz F.kU [.sl 1 (E cC l),.fn F.dO [.ro (cFd fr to)]] (.v (.int .i64 (rA (fun c=>!bY (fH fr to c)) l))):=
 aDN Tryz.mixed (k:=1) Cd.ixf_Card_k.o Cd.ixf_Card_k.n Cd.ixf_Card_k.r rfl (fun c=>!bY (fH fr to c)) F.dO [.ro (cFd fr to)] rfl (fun _=>rfl) (fun _=>rfl) (fun x H=>aFR x fr to (ho x H)) G
theorem conHF (l:List (List Int)) (fr to:Int) (ho:∀c,c∈l→okF fr to c) (G:l.length≤1048576):Fz F.rP [.sl 1 (E cC l),.fn F.dO [.ro (cFd fr to)]] (.v (.bool (l.any (fun c=>!bY (fH fr to c))))):=
 aC1 Tryz.mixed (g:=F.kU) Cd.ctf_Card_k.o Cd.ctf_Card_k.n Cd.ctf_Card_k.r rfl (fun c=>!bY (fH fr to c)) F.dO [.ro (cFd fr to)] rfl (idxHF l fr to ho G)
theorem aDc (fr to:Int) (l:List (List Int)):(!l.any fun c=>!bY (fH fr to c))=bP fr to l:=by
 unfold bP
 induction l with
 |nil=>rfl
 |cons x r ih=>simp only[List.any_cons,List.all_cons,Bool.not_or,Bool.not_not,ih]
theorem nU (l:List (List Int)) (fr to:Int) (ho:∀c,c∈l→okF fr to c) (G:l.length≤1048576):Fz F.j5 [.sl 1 (E cC l),.agg (cFd fr to)] (.v (.bool (bP fr to l))):=by
 refine fn0 Cd.i_haveField_k fun X=>?_
 repeat' first|simp -dsimp only[go_sem,cFd]|apply Br.mk<;>intro h<;>try simp -dsimp only[h]|refine aD.c (by first|exact conHF l fr to ho G) ?_|refine aC ?_|fail
 all_goals(first|(simp_all [aDc];done)|(refine aV ?_;have e:=aDc fr to l;simp_all))
theorem aHK (a d:List Int) (fr to:Int) (G:okF fr to a) (H:okF fr to d):Fz F.fB [.agg (cC a),.ro (cC d),.ro (cFd fr to)] (.v (.bool (cmF fr to a d==0))):=by
 refine fn0 Cd.i_hasEqual_1_k fun X=>?_
 repeat' first|simp -dsimp only[go_sem,cC,cFd,List.replicate_succ,List.replicate_zero,List.flatten_cons,List.flatten_nil,List.cons_append,List.nil_append,List.set_cons_zero,List.set_cons_succ,List.length_cons,List.length_nil,List.length_set]|apply Br.mk<;>intro h<;>try simp -dsimp only[h]|refine aD.c (by first|exact kZ a d fr to G H) ?_|refine aC ?_|fail
 all_goals(simp_all)
theorem idxHE (l:List (List Int)) (fr to:Int) (d:List Int) (G:okF fr to d) (ho:∀c,c∈l→okF fr to c) (H:l.length≤1048576):Fz F.kU [.sl 1 (E cC l),.fn F.fB [.ro (cC d),.ro (cFd fr to)]] (.v (.int .i64 (rA (fun c=>cmF fr to c d==0) l))):=
 aDN Tryz.mixed (k:=1) Cd.ixf_Card_k.o Cd.ixf_Card_k.n Cd.ixf_Card_k.r rfl (fun c=>cmF fr to c d==0) F.fB [.ro (cC d),.ro (cFd fr to)] rfl (fun _=>rfl) (fun _=>rfl) (fun x I=>aHK x d fr to (ho x I) G) H
theorem conHE (l:List (List Int)) (fr to:Int) (d:List Int) (G:okF fr to d) (ho:∀c,c∈l→okF fr to c) (H:l.length≤1048576):Fz F.rP [.sl 1 (E cC l),.fn F.fB [.ro (cC d),.ro (cFd fr to)]] (.v (.bool (l.any (fun c=>cmF fr to c d==0)))):=
 aC1 Tryz.mixed (g:=F.kU) Cd.ctf_Card_k.o Cd.ctf_Card_k.n Cd.ctf_Card_k.r rfl (fun c=>cmF fr to c d==0) F.fB [.ro (cC d),.ro (cFd fr to)] rfl (idxHE l fr to d G ho H)
theorem aJc (l:List (List Int)) (d:List Int) (fr to:Int) (G:okF fr to d) (ho:∀c,c∈l→okF fr to c) (H:l.length≤1048576):Fz F.rG [.sl 1 (E cC l),.agg (cC d),.agg (cFd fr to)] (.v (.bool (l.any (fun c=>cmF fr to c d==0)))):=by
 refine fn0 Cd.i_hasEqual_k fun X=>?_
 repeat' first|simp -dsimp only[go_sem,cFd,cC]|apply Br.mk<;>intro h<;>try simp -dsimp only[h]|refine aD.c (by first|exact conHE l fr to d G ho H) ?_|refine aC ?_|fail
 all_goals(simp_all)
theorem aI2 (a:List Int) (fr to:Int) (G:okF fr to a):Fz F.vW [.ro (cC a),.agg (cFd fr to)] (.tup [.v (.string (aB0 (fH fr to a)).1),.v (.bool (aB0 (fH fr to a)).2)]):=by
 refine fn0 Cd.s_l03Key_k fun X=>?_
 repeat' first|simp -dsimp only[go_sem,cFd]|apply Br.mk<;>intro h<;>try simp -dsimp only[h]|refine aD.c (by first|exact part a fr to (bA G).1 (bA G).2.1 (bA G).2.2|exact aKt (fH fr to a) (aAl G)) ?_|refine aC ?_|fail
 all_goals(simp_all)
def cSt (s:ByteArray):List AV:=[.v (.string s)]
def bO (fr to:Int) (l:List (List Int)):List ByteArray:=l.map fun c=>txt (fH fr to c)
def aX (fr to:Int) (l:List (List Int)):Int:=if bB l then(if d9 fr to (bD l) then(if bP fr to l then 0 else 8) else 2) else 1
def gK (fr to:Int) (l:List (List Int)):AV:=if aX fr to l=0 then .sl 1 (E cSt (bO fr to l)) else .v (.slice none 0 0)
theorem dV {l:List (List Int)}{fr to:Int} (J:bB l=true) (I:d9 fr to (bD l)=true):∀c,c∈l→okF fr to c:=by
 intro c G;simp only[bB,Bool.and_eq_true,List.all_eq_true,decide_eq_true_eq] at J;simp only[d9,Bool.and_eq_true,decide_eq_true_eq] at I;obtain⟨F,H⟩:=J.1 c G;simp only[gX,inB,Bool.and_eq_true,List.all_eq_true,decide_eq_true_eq] at F;have L:l.length≠0:=by intro e;rw[List.eq_nil_of_length_eq_zero e] at G;cases G
 rw[bD,if_neg L,←H] at I;obtain⟨M,h2,O⟩:=I;obtain⟨U,Y,_⟩:=F;exact⟨M,h2,O,by omega⟩
theorem aKv {fr to:Int}{l:List (List Int)}{i:Nat} (hi:i<l.length):E cSt ((bO fr to l).take i)++[[.v (.string (txt (fH fr to l[i])))]]=E cSt ((bO fr to l).take (i+1)):=by
 have h2:i<(bO fr to l).length:=by simpa[bO] using hi
 rw[bJ h2,aY];simp[E,cSt,bO]
theorem aKx {fr to:Int}{l:List (List Int)}{i:Nat} (hi:i≤l.length):((bO fr to l).take i).length=i:=by simp[bO];omega
theorem aGO (fr to:Int) (l:List (List Int)):(bO fr to l).take l.length=bO fr to l:=List.take_of_length_le (by simp[bO])
attribute [local go_sem] List.replicate_succ List.replicate_zero List.flatten_cons List.flatten_nil List.cons_append List.nil_append List.set_cons_zero List.set_cons_succ List.length_cons List.length_nil List.length_set in
theorem jP (l:List (List Int)) (fr to:Int) (hs:∀x,x∈l→x.length≤1048576) (hl:l.length≤1048576):Fz F.jD [.sl 1 (E cC l),.agg (cFd fr to)] (.tup [gK fr to l,.v (.int .i64 (aX fr to l))]):=by
 cases hd:bB l
 ·refine fn0 Cd.s_l07Keys_k fun X=>?_
  repeat' first|simp -dsimp only[go_sem,cC,cFd,hd]|apply Br.mk<;>intro h<;>try simp -dsimp only[h]|refine aD.c (by first|exact dD l hs hl) ?_|refine aC ?_|fail
  all_goals simp[gK,aX,hd]
 cases hf:d9 fr to (bD l)
 ·refine fn0 Cd.s_l07Keys_k fun X=>?_
  repeat' first|simp -dsimp only[go_sem,cC,cFd,hd,hf]|apply Br.mk<;>intro h<;>try simp -dsimp only[h]|refine aD.c (by first|exact dD l hs hl|exact dK l|exact dX fr to _) ?_|refine aC ?_|fail
  all_goals simp[gK,aX,hd,hf]
 have ho:=dV hd hf;refine fn0 Cd.s_l07Keys_k fun X=>?_
 repeat' first|simp -dsimp only[go_sem,cC,cFd,hd,hf]|apply Br.mk<;>intro h<;>try simp -dsimp only[h]|refine aD.c (by first|exact dD l hs hl|exact dK l|exact dX fr to _) ?_|refine aC ?_|fail
 refine aN.at dM (X:={zz:Nat×(Unit) // zz.1≤l.length∧(l.take zz.1).all (fun c=>bY (fH fr to c))=true}) (fun zz=>[(6,.loc (.t 6 0) 0 zz.1.1),(7,.v (.int .i64 zz.1.1))]) (fun zz=>[(.t 6 0,.arr 1 (E cSt ((bO fr to l).take zz.1.1)) false)]) (fun zz=>l.length-zz.1.1) ⟨(0,()),by omega,by simp⟩ ?_ ?_
 ·simp[Vs.LeL,Vs.look,Vs.aB,Vs.aQ,Vs.aL,Vs.hset,Vs.aM,Vs.E]
 ·rintro⟨⟨i,_⟩,hi,hg⟩;dsimp only at hi hg;simp -dsimp only[go_sem,cC,cFd];refine Br.mk (fun hc=>?_) fun hc=>?_
  ·have hlt:i<l.length:=Dq;have hw:=aH hlt hl;have hk:=ho _ (List.getElem_mem hlt);have hap:=aKv (fr:=fr) (to:=to) hlt;have hkl:=aKx (fr:=fr) (to:=to) (l:=l) (i:=i) (by omega);have hm:(E cC l).getD i []=[.sl 1 (E cI l[i])]:=aS hlt;cases hb:bY (fH fr to l[i])
   ·have e1:aB0 (fH fr to l[i])=(⟨#[]⟩,false):=by simp[aB0,hb]
    have e2:bP fr to l=false:=fT (p:=fun c=>bY (fH fr to c)) hlt hb
    repeat' first|simp -dsimp only[go_sem,hw,hm,e1,cC,cFd]|apply Br.mk<;>intro h<;>try simp -dsimp only[h]|refine aD.c (by first|exact aI2 _ fr to hk) ?_|refine aC ?_|fail
    all_goals first|omega|(refine aV ?_;simp[gK,aX,hd,hf,e2];done)|(simp[gK,aX,hd,hf,e2];done)
   ·have e1:aB0 (fH fr to l[i])=(txt (fH fr to l[i]),true):=by simp[aB0,hb]
    repeat' first|simp -dsimp only[go_sem,hw,hm,e1,hap,hkl,aI,cC,cFd]|apply Br.mk<;>intro h<;>try simp -dsimp only[h]|refine aD.c (by first|exact aI2 _ fr to hk) ?_|refine aC ?_|fail
    all_goals first|omega|(exact nx (i+1,()) (aZ (p:=fun c=>bY (fH fr to c)) hlt hg hb))
  ·have hge:i=l.length:=by
    have:¬i<l.length:=Dq;omega
   subst hge;simp -dsimp only[go_sem,cC,cFd];have hall:bP fr to l=true:=by simpa[bP] using hg
   have hkl:(E cSt ((bO fr to l).take l.length)).take l.length=E cSt (bO fr to l):=by rw[aGO];exact List.take_of_length_le (by simp[Vs.E,bO])
   have hk2:(E cSt (bO fr to l)).take l.length=E cSt (bO fr to l):=List.take_of_length_le (by simp[Vs.E,bO]);simp[gK,aX,hd,hf,hall,hkl,hk2,aGO]
def stpTo (fr to:Int) (l:List (List Int)):Nat→List Int
 |0=>[]
 |i+1=>stpTo fr to l i++(if cmF fr to (l.getD (i+1) []) (l.getD i [])<0 then[((i+1:Nat):Int)] else[])
def stp (fr to:Int) (l:List (List Int)):List Int:=stpTo fr to l (l.length-1)
def gQ (fr to:Int) (l:List (List Int)):Bool:=((stp fr to l).length:Int)==0
theorem aCC (fr to:Int) (l:List (List Int)):∀i,(stpTo fr to l i).length≤i
 |0=>by simp[stpTo]
 | i+1=>by
  have:=aCC fr to l i;rw[stpTo,List.length_append];split<;>simp<;>omega
theorem aKX {i n:Nat} (h:i<n-1) (F:n≤1048576):IntKind.i64.wrap (((i+1:Nat):Int)+1)=((i+1+1:Nat):Int):=by rw[aP (by omega) (by omega)];omega
theorem aKW {i n:Nat} (h:i<n-1) (F:n≤1048576):IntKind.i64.wrap (((i+1:Nat):Int)-1)=(i:Int):=by rw[aP (by omega) (by omega)];omega
attribute [local go_sem] List.replicate_succ List.replicate_zero List.flatten_cons List.flatten_nil List.cons_append List.nil_append List.set_cons_zero List.set_cons_succ List.length_cons List.length_nil List.length_set in
theorem steps (l:List (List Int)) (fr to:Int) (ho:∀c,c∈l→okF fr to c) (hl:l.length≤1048576):Fz F.aAc [.sl 1 (E cC l),.agg (cFd fr to)] (.sl 1 (E cI (stp fr to l))):=by
 refine fn0 Cd.i_steps_k fun X=>?_;simp -dsimp only[go_sem,cC,cFd];refine⟨⟨by omega,by omega⟩,?_⟩;refine aN.at dM (X:={zz:Nat×(Unit) // zz.1≤l.length-1∧True}) (fun zz=>[(5,.loc (.t 5 0) 0 (stpTo fr to l zz.1.1).length),(6,.v (.int .i64 ((zz.1.1+1:Nat):Int)))]) (fun zz=>[(.t 5 0,.arr 1 (E cI (stpTo fr to l zz.1.1)) false)]) (fun zz=>l.length-1-zz.1.1) ⟨(0,()),by omega,trivial⟩ ?_ ?_
 ·simp[Vs.LeL,Vs.look,Vs.aB,Vs.aQ,Vs.aL,Vs.hset,Vs.aM,Vs.E,stpTo]
 ·rintro⟨⟨i,_⟩,hi,hg⟩;dsimp only at hi hg;simp -dsimp only[go_sem,cC,cFd];refine Br.mk (fun hc=>?_) fun hc=>?_
  ·have hlt:i<l.length-1:=Dq;have hw:=aH hlt (by omega);have hl1:i+1<l.length:=by omega
   have hl0:i<l.length:=by omega
   have hk1:=ho _ (List.getElem_mem hl1);have hk0:=ho _ (List.getElem_mem hl0);have hm1:(E cC l).getD (i+1) []=[.sl 1 (E cI l[i+1])]:=aS hl1;have hm0:(E cC l).getD i []=[.sl 1 (E cI l[i])]:=aS hl0;have hw2:=aKX hlt hl;have hw3:=aKW hlt hl;have hsl:=aCC fr to l i;have g1:l.getD (i+1) []=l[i+1]:=by simp[List.getD,hl1]
   have g0:l.getD i []=l[i]:=by simp[List.getD,hl0]
   by_cases hz:cmF fr to l[i+1] l[i]<0
   ·have e1:decide (cmF fr to l[i+1] l[i]<0)=true:=decide_eq_true hz;have hs:stpTo fr to l (i+1)=stpTo fr to l i++[((i+1:Nat):Int)]:=by rw[stpTo,g1,g0,if_pos hz]
    have hap:E cI (stpTo fr to l i)++[[.v (.int .i64 ((i+1:Nat):Int))]]=E cI (stpTo fr to l (i+1)):=by rw[hs,aY];rfl
    have hln:(stpTo fr to l (i+1)).length=(stpTo fr to l i).length+1:=by rw[hs];simp
    repeat' first|simp -dsimp only[go_sem,hw2,hw3,hm1,hm0,e1,hap,aI,cC,cFd]|apply Br.mk<;>intro h<;>try simp -dsimp only[h]|refine aD.c (by first|exact kZ _ _ fr to hk1 hk0) ?_|refine aC ?_|fail
    all_goals first|omega|(exact nx (i+1,()) trivial (h2:=by simp[Vs.LeL,Vs.look,Vs.aB,Vs.aQ,Vs.aL,Vs.hset,Vs.aM,hln]))
   ·have e1:decide (cmF fr to l[i+1] l[i]<0)=false:=decide_eq_false hz;have hs:stpTo fr to l (i+1)=stpTo fr to l i:=by rw[stpTo,g1,g0,if_neg hz];simp
    repeat' first|simp -dsimp only[go_sem,hw2,hw3,hm1,hm0,e1,aI,cC,cFd]|apply Br.mk<;>intro h<;>try simp -dsimp only[h]|refine aD.c (by first|exact kZ _ _ fr to hk1 hk0) ?_|refine aC ?_|fail
    all_goals first|omega|(exact nx (i+1,()) trivial (h2:=by simp[Vs.LeL,Vs.look,Vs.aB,Vs.aQ,Vs.aL,Vs.hset,Vs.aM,hs]))
  ·have hge:i=l.length-1:=by
    have:¬i<l.length-1:=Dq;omega
   subst hge;simp -dsimp only[go_sem,cC,cFd];exact⟨⟨_,_,rfl,rfl⟩,by simp⟩
theorem aT (l:List (List Int)) (fr to:Int) (ho:∀c,c∈l→okF fr to c) (G:l.length≤1048576):Fz F.fF [.sl 1 (E cC l),.agg (cFd fr to)] (.v (.bool (gQ fr to l))):=by
 refine fn0 Cd.i_isAscending_k fun X=>?_
 repeat' first|simp -dsimp only[go_sem,cFd,aI]|apply Br.mk<;>intro h<;>try simp -dsimp only[h]|refine aD.c (by first|exact steps l fr to ho G) ?_|refine aC ?_|fail
 all_goals(simp_all [gQ])
end
section
variable [Vs.Envs]
attribute [local irreducible] Vs.Fn
theorem getD_lt {α:Type}{l:List α}{i:Nat} (h:i<l.length) (d:α):l.getD i d=l[i]:=by simp[List.getD,h]
def cTs (t:List Tot):List AV:=[.sl 2 (E cT t)]
structure Off where
 trays:List (List (List Int))
 totals:List (List Tot)
def cO (o:Off):List AV:=[.sl 1 (E cD o.trays),.sl 1 (E cTs o.totals)]
def aU (l:List (List Int)):Prop:=l.length≤1048576∧∀c,c∈l→c.length≤1048576
def aDs (l:List (List (List Int))):Prop:=l.length≤1048576∧∀d,d∈l→aU d
def aFr (l:List Tot):Prop:=l.length≤1048576∧∀t,t∈l→t.1.size≤1048576
def aBi (l:List (List Tot)):Prop:=l.length≤1048576∧∀t,t∈l→aFr t
def yJ (o:Off):Prop:=aDs o.trays∧aBi o.totals
end
section
variable [Vs.Envs]
attribute [local irreducible] Vs.Fn chOK areCh chTo chAt l03 chB rk cd3 chI stp stpTo
attribute [local irreducible] aX
attribute [local go_sem] cC List.replicate_succ List.replicate_zero List.flatten_cons List.flatten_nil List.cons_append List.nil_append List.set_cons_zero List.set_cons_succ List.length_cons List.length_nil List.length_set
def aFs (l:List (List (List Int))):Prop:=l.length≤1048576∧∀d,d∈l→aU d
def iQ (fr to:Int) (ls:List (List (List Int))):Int:=
 if ls.all bB then(if ls.all (fun d=>d9 fr to (bD d)) then(if ls.all (bP fr to) then 0 else 8) else 2) else 1
def x8 (fr to:Int) (ts:List ByteArray) (ls:List (List (List Int))):Int:=
 if ls.all bB then(if ls.all (fun d=>d9 fr to (bD d)) then(if ts.all (fun t=>(t.size:Int)==W (to-fr)) then(if ts.all areCh then(if ls.all (bP fr to) then 0 else 8) else 7) else 2) else 2) else 1
theorem uI (fr to:Int) (ls:List (List (List Int))) (hk:aFs ls):Fz F.dQ [.agg (cFd fr to),.v (.bool true),.v (.slice none 0 0),.sl 1 (E cD ls)] (.v (.int .i64 (iQ fr to ls))):=by
 refine fn0 Cd.i_collateCode_k fun X=>?_;simp -dsimp only[go_sem,cFd,cD];refine aN.at dM (X:={zz:Nat×(Unit) // zz.1≤ls.length∧(ls.take zz.1).all (bB)=true}) (fun zz=>[(21,.v (.int .i64 zz.1.1))]) (fun zz=>[]) (fun zz=>ls.length-zz.1.1) ⟨(0,()),by omega,by simp⟩ ?_ ?_
 ·exact le0
 ·rintro⟨⟨i,_⟩,hi,hg⟩;dsimp only at hi hg;simp -dsimp only[go_sem,cFd,cD];refine Br.mk (fun hc=>?_) fun hc=>?_
  ·have hlt:i<ls.length:=Dq;have hw:=aH hlt hk.1;have hsm:=hk.2 _ (List.getElem_mem hlt);have hm:(E cD ls).getD i []=[.sl 1 (E cC ls[i])]:=aS hlt;cases hb:bB ls[i]
   ·have hall:ls.all (bB)=false:=fT (p:=bB) hlt hb
    repeat' first|simp -dsimp only[go_sem,hw,hm,hb,cFd,cD]|apply Br.mk<;>intro h<;>try simp -dsimp only[h]|refine aD.c (by first|exact lM _ hsm.2 hsm.1) ?_|refine aC ?_|fail
    all_goals first|omega|(refine aV ?_;simp[iQ,hall];done)|(simp[iQ,hall];done)
   ·simp -dsimp only[go_sem,hw,hm,hb,cFd,cD]
    repeat' first|simp -dsimp only[go_sem,hw,hm,hb,cFd,cD]|apply Br.mk<;>intro h<;>try simp -dsimp only[h]|refine aD.c (by first|exact lM _ hsm.2 hsm.1) ?_|refine aC ?_|fail
    all_goals first|omega|(exact nx (i+1,()) (aZ (p:=bB) hlt hg hb))
  ·have hge:i=ls.length:=by
    have:¬i<ls.length:=Dq;omega
   subst hge;simp -dsimp only[go_sem,cFd,cD];have a1:ls.all (bB)=true:=by simpa using hg
   clear hg hi hc;refine⟨?_,by simp⟩;refine aN.at dM (X:={zz:Nat×(Unit) // zz.1≤ls.length∧(ls.take zz.1).all ((fun d=>d9 fr to (bD d)))=true}) (fun zz=>[(33,.v (.int .i64 zz.1.1))]) (fun zz=>[]) (fun zz=>ls.length-zz.1.1) ⟨(0,()),by omega,by simp⟩ ?_ ?_
   ·exact le0
   ·rintro⟨⟨i,_⟩,hi,hg⟩;dsimp only at hi hg;simp -dsimp only[go_sem,cFd,cD];refine Br.mk (fun hc=>?_) fun hc=>?_
    ·have hlt:i<ls.length:=Dq;have hw:=aH hlt hk.1;have hsm:=hk.2 _ (List.getElem_mem hlt);have hm:(E cD ls).getD i []=[.sl 1 (E cC ls[i])]:=aS hlt;cases hb:(fun d=>d9 fr to (bD d)) ls[i]
     ·have hall:ls.all ((fun d=>d9 fr to (bD d)))=false:=fT (p:=(fun d=>d9 fr to (bD d))) hlt hb
      repeat' first|simp -dsimp only[go_sem,hw,hm,hb,cFd,cD]|apply Br.mk<;>intro h<;>try simp -dsimp only[h]|refine aD.c (by first|exact gN _|exact uY fr to _) ?_|refine aC ?_|fail
      all_goals first|omega|(refine aV ?_;simp[iQ,hall,a1];done)|(simp[iQ,hall,a1];done)
     ·simp -dsimp only[go_sem,hw,hm,hb,cFd,cD]
      repeat' first|simp -dsimp only[go_sem,hw,hm,hb,cFd,cD]|apply Br.mk<;>intro h<;>try simp -dsimp only[h]|refine aD.c (by first|exact gN _|exact uY fr to _) ?_|refine aC ?_|fail
      all_goals first|omega|(exact nx (i+1,()) (aZ (p:=(fun d=>d9 fr to (bD d))) hlt hg hb))
    ·have hge:i=ls.length:=by
      have:¬i<ls.length:=Dq;omega
     subst hge;simp -dsimp only[go_sem,cFd,cD];have a2:ls.all ((fun d=>d9 fr to (bD d)))=true:=by simpa using hg
     clear hg hi hc;refine⟨?_,by simp⟩;refine aN.at dM (X:={zz:Nat×(Unit) // zz.1≤0∧True}) (fun zz=>[(45,.v (.int .i64 zz.1.1))]) (fun zz=>[]) (fun zz=>0-zz.1.1) ⟨(0,()),by omega,trivial⟩ ?_ ?_
     ·exact le0
     ·rintro⟨⟨i,_⟩,hi,hg⟩;dsimp only at hi hg;simp -dsimp only[go_sem,cFd,cD];refine Br.mk (fun hc=>?_) fun hc=>?_
      ·have hlt:i<0:=by have:=of_decide_eq_true hc;omega
       have hw:=aH hlt (by omega);exact absurd hlt (by omega)
      ·have hge:i=0:=by
        have:¬i<0:=by have:=of_decide_eq_false hc;omega
        omega
       subst hge;simp -dsimp only[go_sem,cFd,cD];clear hg hi hc;refine⟨?_,by simp⟩;refine aN.at dM (X:={zz:Nat×(Unit) // zz.1≤0∧True}) (fun zz=>[(60,.v (.int .i64 zz.1.1))]) (fun zz=>[]) (fun zz=>0-zz.1.1) ⟨(0,()),by omega,trivial⟩ ?_ ?_
       ·exact le0
       ·rintro⟨⟨i,_⟩,hi,hg⟩;dsimp only at hi hg;simp -dsimp only[go_sem,cFd,cD];refine Br.mk (fun hc=>?_) fun hc=>?_
        ·have hlt:i<0:=by have:=of_decide_eq_true hc;omega
         have hw:=aH hlt (by omega);exact absurd hlt (by omega)
        ·have hge:i=0:=by
          have:¬i<0:=by have:=of_decide_eq_false hc;omega
          omega
         subst hge;simp -dsimp only[go_sem,cFd,cD];clear hg hi hc;refine⟨?_,by simp⟩;refine aN.at dM (X:={zz:Nat×(Unit) // zz.1≤ls.length∧(ls.take zz.1).all ((bP fr to))=true}) (fun zz=>[(70,.v (.int .i64 zz.1.1))]) (fun zz=>[]) (fun zz=>ls.length-zz.1.1) ⟨(0,()),by omega,by simp⟩ ?_ ?_
         ·exact le0
         ·rintro⟨⟨i,_⟩,hi,hg⟩;dsimp only at hi hg;simp -dsimp only[go_sem,cFd,cD];refine Br.mk (fun hc=>?_) fun hc=>?_
          ·have hlt:i<ls.length:=Dq;have hw:=aH hlt hk.1;have hsm:=hk.2 _ (List.getElem_mem hlt);have hm:(E cD ls).getD i []=[.sl 1 (E cC ls[i])]:=aS hlt;have hdk:bB ls[i]=true:=(List.all_eq_true.1 a1) _ (List.getElem_mem hlt);have hfk:d9 fr to (bD ls[i])=true:=(List.all_eq_true.1 a2) _ (List.getElem_mem hlt);have hof:=dV hdk hfk;cases hb:(bP fr to) ls[i]
           ·have hall:ls.all ((bP fr to))=false:=fT (p:=(bP fr to)) hlt hb
            repeat' first|simp -dsimp only[go_sem,hw,hm,hb,cFd,cD]|apply Br.mk<;>intro h<;>try simp -dsimp only[h]|refine aD.c (by first|exact nU _ fr to hof hsm.1) ?_|refine aC ?_|fail
            all_goals first|omega|(refine aV ?_;simp[iQ,hall,a1,a2];done)|(simp[iQ,hall,a1,a2];done)
           ·simp -dsimp only[go_sem,hw,hm,hb,cFd,cD]
            repeat' first|simp -dsimp only[go_sem,hw,hm,hb,cFd,cD]|apply Br.mk<;>intro h<;>try simp -dsimp only[h]|refine aD.c (by first|exact nU _ fr to hof hsm.1) ?_|refine aC ?_|fail
            all_goals first|omega|(exact nx (i+1,()) (aZ (p:=(bP fr to)) hlt hg hb))
          ·have hge:i=ls.length:=by
            have:¬i<ls.length:=Dq;omega
           subst hge;simp -dsimp only[go_sem,cFd,cD];have a5:ls.all (bP fr to)=true:=by simpa using hg
           simp[iQ,a1,a2,a5]
theorem aJu (fr to:Int) (ls:List (List (List Int))) (hk:aFs ls) (ts:List ByteArray) (hts:ts.length≤1048576) (htz:∀t,t∈ts→t.size≤1048576):Fz F.dQ [.agg (cFd fr to),.v (.bool true),.sl 1 (E cSt ts),.sl 1 (E cD ls)] (.v (.int .i64 (x8 fr to ts ls))):=by
 refine fn0 Cd.i_collateCode_k fun X=>?_;simp -dsimp only[go_sem,cFd,cD];refine aN.at dM (X:={zz:Nat×(Unit) // zz.1≤ls.length∧(ls.take zz.1).all (bB)=true}) (fun zz=>[(21,.v (.int .i64 zz.1.1))]) (fun zz=>[]) (fun zz=>ls.length-zz.1.1) ⟨(0,()),by omega,by simp⟩ ?_ ?_
 ·exact le0
 ·rintro⟨⟨i,_⟩,hi,hg⟩;dsimp only at hi hg;simp -dsimp only[go_sem,cFd,cD];refine Br.mk (fun hc=>?_) fun hc=>?_
  ·have hlt:i<ls.length:=Dq;have hw:=aH hlt hk.1;have hsm:=hk.2 _ (List.getElem_mem hlt);have hm:(E cD ls).getD i []=[.sl 1 (E cC ls[i])]:=aS hlt;cases hb:bB ls[i]
   ·have hall:ls.all (bB)=false:=fT (p:=bB) hlt hb
    repeat' first|simp -dsimp only[go_sem,hw,hm,hb,cFd,cD]|apply Br.mk<;>intro h<;>try simp -dsimp only[h]|refine aD.c (by first|exact lM _ hsm.2 hsm.1) ?_|refine aC ?_|fail
    all_goals first|omega|(refine aV ?_;simp[x8,hall];done)|(simp[x8,hall];done)
   ·simp -dsimp only[go_sem,hw,hm,hb,cFd,cD]
    repeat' first|simp -dsimp only[go_sem,hw,hm,hb,cFd,cD]|apply Br.mk<;>intro h<;>try simp -dsimp only[h]|refine aD.c (by first|exact lM _ hsm.2 hsm.1) ?_|refine aC ?_|fail
    all_goals first|omega|(exact nx (i+1,()) (aZ (p:=bB) hlt hg hb))
  ·have hge:i=ls.length:=by
    have:¬i<ls.length:=Dq;omega
   subst hge;simp -dsimp only[go_sem,cFd,cD];have a1:ls.all (bB)=true:=by simpa using hg
   clear hg hi hc;refine⟨?_,by simp⟩;refine aN.at dM (X:={zz:Nat×(Unit) // zz.1≤ls.length∧(ls.take zz.1).all ((fun d=>d9 fr to (bD d)))=true}) (fun zz=>[(33,.v (.int .i64 zz.1.1))]) (fun zz=>[]) (fun zz=>ls.length-zz.1.1) ⟨(0,()),by omega,by simp⟩ ?_ ?_
   ·exact le0
   ·rintro⟨⟨i,_⟩,hi,hg⟩;dsimp only at hi hg;simp -dsimp only[go_sem,cFd,cD];refine Br.mk (fun hc=>?_) fun hc=>?_
    ·have hlt:i<ls.length:=Dq;have hw:=aH hlt hk.1;have hsm:=hk.2 _ (List.getElem_mem hlt);have hm:(E cD ls).getD i []=[.sl 1 (E cC ls[i])]:=aS hlt;cases hb:(fun d=>d9 fr to (bD d)) ls[i]
     ·have hall:ls.all ((fun d=>d9 fr to (bD d)))=false:=fT (p:=(fun d=>d9 fr to (bD d))) hlt hb
      repeat' first|simp -dsimp only[go_sem,hw,hm,hb,cFd,cD]|apply Br.mk<;>intro h<;>try simp -dsimp only[h]|refine aD.c (by first|exact gN _|exact uY fr to _) ?_|refine aC ?_|fail
      all_goals first|omega|(refine aV ?_;simp[x8,hall,a1];done)|(simp[x8,hall,a1];done)
     ·simp -dsimp only[go_sem,hw,hm,hb,cFd,cD]
      repeat' first|simp -dsimp only[go_sem,hw,hm,hb,cFd,cD]|apply Br.mk<;>intro h<;>try simp -dsimp only[h]|refine aD.c (by first|exact gN _|exact uY fr to _) ?_|refine aC ?_|fail
      all_goals first|omega|(exact nx (i+1,()) (aZ (p:=(fun d=>d9 fr to (bD d))) hlt hg hb))
    ·have hge:i=ls.length:=by
      have:¬i<ls.length:=Dq;omega
     subst hge;simp -dsimp only[go_sem,cFd,cD];have a2:ls.all ((fun d=>d9 fr to (bD d)))=true:=by simpa using hg
     clear hg hi hc;refine⟨?_,by simp⟩;refine aN.at dM (X:={zz:Nat×(Unit) // zz.1≤ts.length∧(ts.take zz.1).all ((fun t:ByteArray=>(t.size:Int)==W (to-fr)))=true}) (fun zz=>[(45,.v (.int .i64 zz.1.1))]) (fun zz=>[]) (fun zz=>ts.length-zz.1.1) ⟨(0,()),by omega,by simp⟩ ?_ ?_
     ·exact le0
     ·rintro⟨⟨i,_⟩,hi,hg⟩;dsimp only at hi hg;simp -dsimp only[go_sem,cFd,cD];refine Br.mk (fun hc=>?_) fun hc=>?_
      ·have hlt:i<ts.length:=Dq;have hw:=aH hlt hts;have hm:(E cSt ts).getD i []=[.v (.string ts[i])]:=aS hlt;have hne:((ts[i].size:Int) != IntKind.i64.wrap (to-fr)) = !((ts[i].size:Int)==W (to-fr)):=rfl;cases hb:(fun t:ByteArray=>(t.size:Int)==W (to-fr)) ts[i]
       ·have hall:ts.all ((fun t:ByteArray=>(t.size:Int)==W (to-fr)))=false:=fT (p:=(fun t:ByteArray=>(t.size:Int)==W (to-fr))) hlt hb
        repeat' first|simp -dsimp only[go_sem,hw,hm,hb,hne,Bool.not_true,Bool.not_false,cFd,cD]|apply Br.mk<;>intro h<;>try simp -dsimp only[h]|refine aC ?_|fail
        all_goals first|omega|(refine aV ?_;simp[x8,hall,a1,a2];done)|(simp[x8,hall,a1,a2];done)
       ·simp -dsimp only[go_sem,hw,hm,hb,hne,Bool.not_true,Bool.not_false,cFd,cD]
        repeat' first|simp -dsimp only[go_sem,hw,hm,hb,hne,Bool.not_true,Bool.not_false,cFd,cD]|apply Br.mk<;>intro h<;>try simp -dsimp only[h]|refine aC ?_|fail
        all_goals first|omega|(exact nx (i+1,()) (aZ (p:=(fun t:ByteArray=>(t.size:Int)==W (to-fr))) hlt hg hb))
      ·have hge:i=ts.length:=by
        have:¬i<ts.length:=Dq;omega
       subst hge;simp -dsimp only[go_sem,cFd,cD];have a3:ts.all ((fun t:ByteArray=>(t.size:Int)==W (to-fr)))=true:=by simpa using hg
       clear hg hi hc;refine⟨?_,by simp⟩;refine aN.at dM (X:={zz:Nat×(Unit) // zz.1≤ts.length∧(ts.take zz.1).all (areCh)=true}) (fun zz=>[(60,.v (.int .i64 zz.1.1))]) (fun zz=>[]) (fun zz=>ts.length-zz.1.1) ⟨(0,()),by omega,by simp⟩ ?_ ?_
       ·exact le0
       ·rintro⟨⟨i,_⟩,hi,hg⟩;dsimp only at hi hg;simp -dsimp only[go_sem,cFd,cD];refine Br.mk (fun hc=>?_) fun hc=>?_
        ·have hlt:i<ts.length:=Dq;have hw:=aH hlt hts;have hm:(E cSt ts).getD i []=[.v (.string ts[i])]:=aS hlt;cases hb:areCh ts[i]
         ·have hall:ts.all (areCh)=false:=fT (p:=areCh) hlt hb
          repeat' first|simp -dsimp only[go_sem,hw,hm,hb,cFd,cD]|apply Br.mk<;>intro h<;>try simp -dsimp only[h]|refine aD.c (by first|exact sK _ (htz _ (List.getElem_mem hlt))) ?_|refine aC ?_|fail
          all_goals first|omega|(refine aV ?_;simp[x8,hall,a1,a2,a3];done)|(simp[x8,hall,a1,a2,a3];done)
         ·simp -dsimp only[go_sem,hw,hm,hb,cFd,cD]
          repeat' first|simp -dsimp only[go_sem,hw,hm,hb,cFd,cD]|apply Br.mk<;>intro h<;>try simp -dsimp only[h]|refine aD.c (by first|exact sK _ (htz _ (List.getElem_mem hlt))) ?_|refine aC ?_|fail
          all_goals first|omega|(exact nx (i+1,()) (aZ (p:=areCh) hlt hg hb))
        ·have hge:i=ts.length:=by
          have:¬i<ts.length:=Dq;omega
         subst hge;simp -dsimp only[go_sem,cFd,cD];have a4:ts.all (areCh)=true:=by simpa using hg
         clear hg hi hc;refine⟨?_,by simp⟩;refine aN.at dM (X:={zz:Nat×(Unit) // zz.1≤ls.length∧(ls.take zz.1).all ((bP fr to))=true}) (fun zz=>[(70,.v (.int .i64 zz.1.1))]) (fun zz=>[]) (fun zz=>ls.length-zz.1.1) ⟨(0,()),by omega,by simp⟩ ?_ ?_
         ·exact le0
         ·rintro⟨⟨i,_⟩,hi,hg⟩;dsimp only at hi hg;simp -dsimp only[go_sem,cFd,cD];refine Br.mk (fun hc=>?_) fun hc=>?_
          ·have hlt:i<ls.length:=Dq;have hw:=aH hlt hk.1;have hsm:=hk.2 _ (List.getElem_mem hlt);have hm:(E cD ls).getD i []=[.sl 1 (E cC ls[i])]:=aS hlt;have hdk:bB ls[i]=true:=(List.all_eq_true.1 a1) _ (List.getElem_mem hlt);have hfk:d9 fr to (bD ls[i])=true:=(List.all_eq_true.1 a2) _ (List.getElem_mem hlt);have hof:=dV hdk hfk;cases hb:(bP fr to) ls[i]
           ·have hall:ls.all ((bP fr to))=false:=fT (p:=(bP fr to)) hlt hb
            repeat' first|simp -dsimp only[go_sem,hw,hm,hb,cFd,cD]|apply Br.mk<;>intro h<;>try simp -dsimp only[h]|refine aD.c (by first|exact nU _ fr to hof hsm.1) ?_|refine aC ?_|fail
            all_goals first|omega|(refine aV ?_;simp[x8,hall,a1,a2,a3,a4];done)|(simp[x8,hall,a1,a2,a3,a4];done)
           ·simp -dsimp only[go_sem,hw,hm,hb,cFd,cD]
            repeat' first|simp -dsimp only[go_sem,hw,hm,hb,cFd,cD]|apply Br.mk<;>intro h<;>try simp -dsimp only[h]|refine aD.c (by first|exact nU _ fr to hof hsm.1) ?_|refine aC ?_|fail
            all_goals first|omega|(exact nx (i+1,()) (aZ (p:=(bP fr to)) hlt hg hb))
          ·have hge:i=ls.length:=by
            have:¬i<ls.length:=Dq;omega
           subst hge;simp -dsimp only[go_sem,cFd,cD];have a5:ls.all (bP fr to)=true:=by simpa using hg
           simp[x8,a1,a2,a3,a4,a5]
theorem aGp (fr to:Int) (l:List (List Int)) (i:Nat):∀k,∃r,stpTo fr to l (i+k)=stpTo fr to l i++r
 |0=>⟨[],by simp⟩
 | k+1=>by
  obtain⟨r,F⟩:=aGp fr to l i k;exact⟨r++(if cmF fr to (l.getD (i+k+1) []) (l.getD (i+k) [])<0 then[((i+k+1:Nat):Int)] else[]),by rw[←Nat.add_assoc,stpTo,F,List.append_assoc]⟩
def stF (fr to:Int) (l:List (List Int)):Int:=(stp fr to l).headD (-1)
theorem dC (fr to:Int) (l:List (List Int)):decide (stF fr to l≥0) = !gQ fr to l:=by
 have G:∀k,∀x,x∈stpTo fr to l k→0≤x:=by
  intro k
  induction k with
  |zero=>intro x F;simp[stpTo] at F
  | succ k ih =>
   intro x F;rw[stpTo] at F;rcases List.mem_append.1 F with F|F
   ·exact ih x F
   ·split at F
    ·simp at F;omega
    ·cases F
 unfold stF gQ;cases h:stp fr to l with
 |nil=>simp
 | cons x r =>
  have:=G (l.length-1) x (by unfold stp at h;rw[h];simp);simp only[List.headD_cons,ge_iff_le,this,decide_true,List.length_cons]
  symm
  simp;omega
attribute [local go_sem] aI cFd cD in
theorem bW (l:List (List Int)) (fr to:Int) (ho:∀c,c∈l→okF fr to c) (hh:bP fr to l=true) (hl:l.length≤1048576):Fz F.lS [.sl 1 (E cSt (bO fr to l))] (.v (.int .i64 (stF fr to l))):=by
 have hkl:(bO fr to l).length=l.length:=by simp[bO]
 refine fn0 Cd.s_l07Step_k fun X=>?_;simp -dsimp only[go_sem,hkl];refine aN.at dM (X:={zz:Nat×(Unit) // zz.1≤l.length-1∧stpTo fr to l zz.1=[]}) (fun zz=>[(3,.v (.int .i64 ((zz.1.1+1:Nat):Int)))]) (fun zz=>[]) (fun zz=>l.length-1-zz.1.1) ⟨(0,()),by omega,by simp[stpTo]⟩ ?_ ?_
 ·simp[Vs.LeL,Vs.look,Vs.aB,Vs.aQ,Vs.aL,Vs.hset,Vs.aM,Vs.E,stpTo]
 ·rintro⟨⟨i,_⟩,hi,hg⟩;dsimp only at hi hg;simp -dsimp only[go_sem,hkl];refine Br.mk (fun hc=>?_) fun hc=>?_
  ·have hlt:i<l.length-1:=Dq;have hw:=aH hlt (by omega);have hl1:i+1<l.length:=by omega
   have hl0:i<l.length:=by omega
   have hk1:=ho _ (List.getElem_mem hl1);have hk0:=ho _ (List.getElem_mem hl0);have hc1:bY (fH fr to l[i+1])=true:=(List.all_eq_true.1 hh) _ (List.getElem_mem hl1);have hc0:bY (fH fr to l[i])=true:=(List.all_eq_true.1 hh) _ (List.getElem_mem hl0);have hm1:(E cSt (bO fr to l)).getD (i+1) []=[.v (.string (txt (fH fr to l[i+1])))]:=by rw[aS (by omega)];simp[bO,cSt]
   have hm0:(E cSt (bO fr to l)).getD i []=[.v (.string (txt (fH fr to l[i])))]:=by rw[aS (by omega)];simp[bO,cSt]
   have hw2:=aKX hlt hl;have hw3:=aKW hlt hl;have g1:l.getD (i+1) []=l[i+1]:=by simp[List.getD,hl1]
   have g0:l.getD i []=l[i]:=by simp[List.getD,hl0]
   have hcf:iR (fH fr to l[i+1]) (fH fr to l[i])=cmF fr to l[i+1] l[i]:=rfl;by_cases hz:cmF fr to l[i+1] l[i]<0
   ·have e1:decide (cmF fr to l[i+1] l[i]<0)=true:=decide_eq_true hz;have hs:stpTo fr to l (i+1)=[((i+1:Nat):Int)]:=by rw[stpTo,g1,g0,if_pos hz,hg];rfl
    obtain⟨r,hr⟩:=aGp fr to l (i+1) (l.length-1-(i+1));rw[show i+1+(l.length-1-(i+1))=l.length-1 by omega,hs] at hr;have hst:stF fr to l=((i+1:Nat):Int):=by unfold stF stp;rw[hr];rfl
    repeat' first|simp -dsimp only[go_sem,hw2,hw3,hm1,hm0,hcf,e1,hkl]|apply Br.mk<;>intro h<;>try simp -dsimp only[h]|refine aD.c (by first|exact uW _ _ (aAl hk1) ((kQ hk1).trans (kQ hk0).symm) hc1 hc0) ?_|refine aC ?_|fail
    all_goals first|omega|(refine aV ?_;simp[hst];done)|(simp[hst];done)
   ·have e1:decide (cmF fr to l[i+1] l[i]<0)=false:=decide_eq_false hz;have hs:stpTo fr to l (i+1)=[]:=by rw[stpTo,g1,g0,if_neg hz,hg];rfl
    repeat' first|simp -dsimp only[go_sem,hw2,hw3,hm1,hm0,hcf,e1,hkl]|apply Br.mk<;>intro h<;>try simp -dsimp only[h]|refine aD.c (by first|exact uW _ _ (aAl hk1) ((kQ hk1).trans (kQ hk0).symm) hc1 hc0) ?_|refine aC ?_|fail
    all_goals first|omega|(exact nx (i+1,()) hs)
  ·have hge:i=l.length-1:=by
    have:¬i<l.length-1:=Dq;omega
   subst hge;simp -dsimp only[go_sem,hkl];have hst:stF fr to l=-1:=by unfold stF stp;rw[hg];rfl
   simp[hst]
end
section
variable [Vs.Envs]
attribute [local irreducible] Vs.Fn chOK areCh chTo chAt l03 chB rk cd3 chI stp stpTo
def flt (q:List Int→Bool) (l:List (List Int)):List (List Int):=l.filter fun x=>!q x
theorem wS {q:List Int→Bool}{l:List (List Int)}{j:Nat} (h:j<l.length):flt q (l.take (j+1))=flt q (l.take j)++(if q l[j] then[] else[l[j]]):=by
 unfold flt;rw[bJ h,List.filter_append];congr 1;cases hq:q l[j]<;>simp[List.filter_cons,hq]
theorem xU (q:List Int→Bool) (l:List (List Int)):(flt q l).length≤l.length:=List.length_filter_le ..
theorem aEV {q:List Int→Bool}{l:List (List Int)} (h:l.all (fun x=>!q x)=true):flt q l=l:=by
 unfold flt;exact List.filter_eq_self.2 (List.all_eq_true.1 h)
theorem aFO (q:List Int→Bool) (l:List (List Int)):(rA q l=-1∧l.all (fun x=>!q x)=true)∨∃i:Nat,∃h:i<l.length,rA q l=i∧q l[i]=true∧(l.take i).all (fun x=>!q x)=true:=by
 unfold rA;cases h:l.findIdx? q with
 | none =>
  rw[List.findIdx?_eq_none_iff] at h;exact .inl ⟨rfl,List.all_eq_true.2 fun x F=>by simp[h x F]⟩
 | some i =>
  rw[List.findIdx?_eq_some_iff_getElem] at h;obtain⟨hi,G,h2⟩:=h;refine .inr ⟨i,hi,rfl,G,List.all_eq_true.2 fun x F=>?_⟩;obtain⟨j,H,rfl⟩:=List.mem_take_iff_getElem.1 F;simpa using h2 j (by omega)
theorem aL0 (m:List (List Int)) (i:Nat) (x:List Int):(E cC m).set i [.sl 1 (E cI x)]=E cC (m.set i x):=by simp[E,List.map_set,cC]
theorem aAU (l:List (List Int)):(E cC l).take l.length=E cC l:=List.take_of_length_le (by simp[E])
def zR (n:Nat):List (List AV):=List.replicate n [.v (.slice none 0 0)]
theorem aKJ {m:List (List Int)}{i n:Nat} (G:m.length=n) (hi:i≤n):yU (E cC m) i (n-i) [.v (.slice none 0 0)]=E cC (m.take i)++zR (n-i):=by
 unfold yU zR;have F:(E cC m).take i=E cC (m.take i):=by simp[E,List.map_take]
 have h2:(E cC m).drop (i+(n-i))=[]:=List.drop_eq_nil_of_le (by rw[aI];omega);rw[F,h2,List.append_nil]
theorem aCW {c:List AV} (h:dJ c=true) (n:Name):l6 n c=false:=by
 induction c with
 |nil=>rfl
 | cons x r ih =>
  simp only[dJ,List.all_cons,Bool.and_eq_true] at h
  have G:x.has n=false:=by
   have F:=h.1;cases x<;>first|rfl|simp[aC7] at F
  simp[l6,G,ih h.2]
attribute [local irreducible] flt rA zR yU
theorem delF (q:List Int→Bool) (g:FuncId) (caps:List AV) (hcaps:dJ caps=true) (l:List (List Int)) (hl:l.length≤1048576) (hq:∀x,x∈l→Vs.Fn Tryz.prog g [] (.agg (cC x)::caps) (.v (.bool (q x))) []) :
  Vs.Fn Tryz.prog F.rO [.arr 1 (E cC l) false] [.loc (.b 0) 0 l.length,.fn g caps] (.loc (.b 0) 0 (flt q l).length) [some (.arr 1 (E cC (flt q l)++zR (l.length-(flt q l).length)) false)]:=by
 have hidx:Fz F.kU [.sl 1 (E cC l),.fn g caps] (.v (.int .i64 (rA q l))):=
  aDN Tryz.mixed (k:=1) Cd.ixf_Card_k.o Cd.ixf_Card_k.n Cd.ixf_Card_k.r rfl q g caps hcaps (fun _=>rfl) (fun _=>rfl) hq hl
 refine fn1 Cd.dlf_Card_k [.b 0] [.arr 1 (E cC (flt q l)++zR (l.length-(flt q l).length)) false] fun X=>?_;unfold Cd.rO;simp -dsimp only[go_sem,aG hcaps _ 6,aG hcaps _ 7,aAU,aI];refine aD.flat hidx rfl ?_;rcases aFO q l with⟨hn,hall⟩|⟨i0,hi0,hn,hq0,hall⟩
 ·have e1:((-1:Int) == -1)=true:=rfl;rw[hn];have hfl:=aEV hall;rw[hfl];have hz0:E cC l++zR (l.length-l.length)=E cC l:=by unfold zR;simp
  simp -dsimp only[go_sem,e1,aI,List.replicate_succ,List.replicate_zero,List.flatten_cons,List.flatten_nil,List.cons_append,List.nil_append,List.set_cons_zero,List.set_cons_succ,List.length_cons,List.length_nil,List.length_set];exact⟨[],[],rfl,by rw[hz0]⟩
 ·have e1:((i0:Int) == -1)=false:=beq_eq_false_iff_ne.2 (by omega);have hw0:=aH hi0 hl;rw[hn];simp -dsimp only[go_sem,e1,hw0,aI,List.replicate_succ,List.replicate_zero,List.flatten_cons,List.flatten_nil,List.cons_append,List.nil_append,List.set_cons_zero,List.set_cons_succ,List.length_cons,List.length_nil,List.length_set];refine aN.at dM (X:={zz:Nat×Nat×List (List Int) // (zz.1≤l.length∧zz.2.1<zz.1)∧zz.2.2.length=l.length∧zz.2.2.take zz.2.1=flt q (l.take zz.1)∧zz.2.2.drop zz.1=l.drop zz.1}) (fun zz=>[(5,.v (.int .i64 zz.1.2.1)),(6,.v (.int .i64 zz.1.1))]) (fun zz=>[(.b 0,.arr 1 (E cC zz.1.2.2) false)]) (fun zz=>l.length-zz.1.1) ⟨(i0+1,i0,l),⟨show i0+1≤l.length by omega,show i0<i0+1 by omega⟩,rfl,?_,rfl⟩ ?_ ?_
  ·show l.take i0=flt q (l.take (i0+1))
   rw[wS hi0,aEV hall,hq0];simp
  ·exact le0
  ·rintro⟨⟨j,i,m⟩,⟨hj,hij⟩,hm,ht,hd⟩;dsimp only at hj hij hm ht hd;simp -dsimp only[go_sem];refine Br.mk (fun hc=>?_) fun hc=>?_
   ·have hlt:j<l.length:=by simpa using hc
    have hw:=aH hlt hl;have hwi:=aH (show i<l.length by omega) hl;have hjm:j<m.length:=by omega
    have him:i<m.length:=by omega
    have hmj:m[j]=l[j]:=by
     have h1:=congrArg (fun x=>x[0]?) hd;simpa[List.getElem?_drop,hjm,hlt] using h1
    have hgm:(E cC m).getD j []=[.sl 1 (E cI l[j])]:=by rw[aS hjm,hmj];rfl
    have hgi:(E cC m).getD i []=[.sl 1 (E cI m[i])]:=aS him;have hlm:(E cC m).length=l.length:=by rw[aI];exact hm
    have hcj:Vs.Fn Tryz.prog g [] (.agg [.sl 1 (E cI l[j])]::caps) (.v (.bool (q l[j]))) []:=hq _ (List.getElem_mem hlt);have hsm:=aL0 m i l[j]
    have hdd:m.drop (j+1)=l.drop (j+1):=by
     have h1:=congrArg (List.drop 1) hd;simpa[List.drop_drop] using h1
    cases hqj:q l[j]
    ·have htt:(m.set i l[j]).take (i+1)=flt q (l.take (j+1)):=by
      rw[wS hlt,hqj,←ht,bJ (show i<(m.set i l[j]).length by simpa using him)];simp only[List.append_cancel_right_eq,List.getElem_set_self,if_false,Bool.false_eq_true];rw[List.take_set_of_le (Nat.le_refl _)]
     have hd2:(m.set i l[j]).drop (j+1)=l.drop (j+1):=by rw[List.drop_set_of_lt (by omega),hdd]
     repeat' first|simp -dsimp only[go_sem,hw,hwi,hgm,hgi,hlm,hsm,hqj,aG hcaps _ 6,aG hcaps _ 7,aCW hcaps,List.replicate_succ,List.replicate_zero,List.flatten_cons,List.flatten_nil,List.cons_append,List.nil_append,List.set_cons_zero,List.set_cons_succ,List.length_cons,List.length_nil,List.length_set]|apply Br.mk<;>intro h<;>try simp -dsimp only[h]|refine aD.c (by first|exact hcj) ?_|refine aC ?_|fail
     all_goals first|omega|(exact⟨⟨(j+1,i+1,m.set i l[j]),⟨by dsimp only;omega,by dsimp only;omega⟩,by simpa using hm,htt,hd2⟩,by simp[Vs.LeL,Vs.look,Vs.aB,Vs.aQ,Vs.aL,Vs.hset,Vs.aM],by simp only;omega⟩)
    ·have htt:m.take i=flt q (l.take (j+1)):=by rw[wS hlt,hqj,←ht];simp
     repeat' first|simp -dsimp only[go_sem,hw,hwi,hgm,hgi,hlm,hsm,hqj,aG hcaps _ 6,aG hcaps _ 7,aCW hcaps,List.replicate_succ,List.replicate_zero,List.flatten_cons,List.flatten_nil,List.cons_append,List.nil_append,List.set_cons_zero,List.set_cons_succ,List.length_cons,List.length_nil,List.length_set]|apply Br.mk<;>intro h<;>try simp -dsimp only[h]|refine aD.c (by first|exact hcj) ?_|refine aC ?_|fail
     all_goals first|omega|(exact⟨⟨(j+1,i,m),⟨by dsimp only;omega,by dsimp only;omega⟩,hm,htt,hdd⟩,by simp[Vs.LeL,Vs.look,Vs.aB,Vs.aQ,Vs.aL,Vs.hset,Vs.aM],by simp only;omega⟩)
   ·have hge:j=l.length:=by
     have:¬j<l.length:=by simpa using hc
     omega
    subst hge;rw[List.take_length] at ht;have hfi:(flt q l).length=i:=by rw[←ht];simp;omega
    have hlm:(E cC m).length=l.length:=by rw[aI];exact hm
    have hcl:=aKJ hm (show i≤l.length by omega);rw[ht] at hcl;have hti:((l.length:Int)-(i:Int)).toNat=l.length-i:=by omega
    rw[hfi];simp -dsimp only[go_sem,hlm,hcl,hti,List.replicate_succ,List.replicate_zero,List.flatten_cons,List.flatten_nil,List.cons_append,List.nil_append,List.set_cons_zero,List.set_cons_succ,List.length_cons,List.length_nil,List.length_set];have hti2:((i:Int)-0).toNat=i:=by omega
    rw[hti2];exact⟨⟨⟨by omega,by omega,by omega⟩,by omega,⟨by omega,by omega,by omega⟩,⟨[],[],rfl,rfl⟩⟩,fun h=>h rfl⟩
end
section
variable [Vs.Envs]
attribute [local irreducible] Vs.Fn chOK areCh chTo chAt l03 chB rk cd3 chI stp stpTo flt rA zR yU
attribute [local irreducible] aX
def u7 (fr to:Int) (o:List (List Int)) (x:List Int):Bool:=o.any fun c=>cmF fr to c x==0
def mat (fr to:Int) (l o:List (List Int)) (e:Bool):List (List Int):=flt (fun x=>!(u7 fr to o x==e)) l
theorem aKm (x:List Int) (o:List (List Int)) (fr to:Int) (e:Bool) (H:okF fr to x) (ho:∀c,c∈o→okF fr to c) (G:o.length≤1048576):Fz F.fJ [.agg (cC x),.ro [.sl 1 (E cC o)],.ro (cFd fr to),.ro [.v (.bool e)]] (.v (.bool (!(u7 fr to o x==e)))):=by
 refine fn0 Cd.i_MatchDecks_1_1_k fun X=>?_
 repeat' first|simp -dsimp only[go_sem,cC,cFd,List.replicate_succ,List.replicate_zero,List.flatten_cons,List.flatten_nil,List.cons_append,List.nil_append,List.set_cons_zero,List.set_cons_succ,List.length_cons,List.length_nil,List.length_set]|apply Br.mk<;>intro h<;>try simp -dsimp only[h]|refine aD.c (by first|exact aJc o x fr to H ho G) ?_|refine aC ?_|fail
 all_goals(simp_all [u7])
theorem aD.borL {P:Program}{f:FuncId}{b:Blk}{ys:List AV}{L:List Vs.Name}{d:Option Nat}{σ:St}{n:Vs.Name}{K:St→Prop}{t:Tag K}{r:AV}{F:List (Option Blk)} (G:Vs.Fn P f [b] ys r F) (H:kF (d.getD 0) 1 F.length σ=true)
  (I:K ⟨put d (rn (phi [n] (d.getD 0) F.length) r) σ.s,x9 σ.h [n] (d.getD 0) F true L⟩):aD P f [b] ys L d σ [n] K t:=
 ⟨r,F,true,G,fun h=>(by cases h),H,I⟩
theorem aEk (m:List (List Int)) (k:Nat):(E cC m++zR k).take m.length=E cC m:=by
 have:m.length=(E cC m).length:=(aI ..).symm;rw[this,List.take_left'];rfl
theorem aDH (l o:List (List Int)) (fr to:Int) (e:Bool) (U:∀x,x∈l→x.length≤1048576) (I:l.length≤1048576) (G:o.length≤1048576) (Y:∀c,c∈l→okF fr to c) (ho:∀c,c∈o→okF fr to c) :
  Fz F.kC [.sl 1 (E cC l),.sl 1 (E cC o),.v (.bool e),.ro (cFd fr to)] (.sl 1 (E cC (mat fr to l o e))):=by
 have L:=delF (fun x=>!(u7 fr to o x==e)) F.fJ [.ro [.sl 1 (E cC o)],.ro (cFd fr to),.ro [.v (.bool e)]] rfl l I (fun x H=>aKm x o fr to e (Y x H) ho G);refine fn0 Cd.i_MatchDecks_1_k fun X=>?_;simp -dsimp only[go_sem,cC,cFd,List.replicate_succ,List.replicate_zero,List.flatten_cons,List.flatten_nil,List.cons_append,List.nil_append,List.set_cons_zero,List.set_cons_succ,List.length_cons,List.length_nil,List.length_set];refine aD.own (zV l U I) rfl ?_;simp -dsimp only[go_sem,cC,cFd,List.replicate_succ,List.replicate_zero,List.flatten_cons,List.flatten_nil,List.cons_append,List.nil_append,List.set_cons_zero,List.set_cons_succ,List.length_cons,List.length_nil,List.length_set,List.flatMap_cons,List.flatMap_nil,bI,dF,bH,List.getD_cons_zero,List.append_nil];refine⟨rfl,aD.borL L rfl ?_⟩;simp -dsimp only[go_sem,cC,cFd,List.replicate_succ,List.replicate_zero,List.flatten_cons,List.flatten_nil,List.cons_append,List.nil_append,List.set_cons_zero,List.set_cons_succ,List.length_cons,List.length_nil,List.length_set];have O:=aEk (flt (fun x=>!(u7 fr to o x==e)) l) (l.length-(flt (fun x=>!(u7 fr to o x==e)) l).length);have J:(flt (fun x=>!(u7 fr to o x==e)) l).length≤l.length:=xU ..
 have M:mat fr to l o e=flt (fun x=>!(u7 fr to o x==e)) l:=rfl;rw[M];simp -dsimp only[go_sem,List.getElem?_cons_zero,List.drop_zero,aI,List.length_append,O];exact⟨_,_,rfl,rfl⟩
def mtC (fr to:Int) (a b:List (List Int)):Int:=if iQ fr to [a,b]=0 then(if gQ fr to a&&gQ fr to b then 0 else 6) else iQ fr to [a,b]
def mtL (fr to:Int) (a b:List (List Int)):List (List (List Int)):=[mat fr to a b true,mat fr to b a true,mat fr to a b false,mat fr to b a false]
def mtV (fr to:Int) (a b:List (List Int)):AV:=if mtC fr to a b=0 then .sl 1 (E cD (mtL fr to a b)) else .v (.slice none 0 0)
theorem aBw {fr to:Int}{a b:List (List Int)} (h:iQ fr to [a,b]=0):(bB a=true∧bB b=true)∧(d9 fr to (bD a)=true∧d9 fr to (bD b)=true)∧bP fr to a=true∧bP fr to b=true:=by
 unfold iQ at h;split at h
 ·rename_i F;split at h
  ·rename_i h2;split at h
   ·rename_i G;simp only[List.all_cons,List.all_nil,Bool.and_true,Bool.and_eq_true] at F h2 G;exact⟨F,h2,G⟩
   ·cases h
  ·cases h
 ·cases h
theorem zF {a b:List (List Int)} (G:aU a) (H:aU b):aFs [a,b]:=by
 refine⟨by simp,fun d F=>?_⟩;simp only[List.mem_cons,List.not_mem_nil,or_false] at F;rcases F with rfl|rfl<;>assumption
attribute [local irreducible] mat iQ gQ
attribute [local go_sem] List.replicate_succ List.replicate_zero List.flatten_cons List.flatten_nil List.cons_append List.nil_append List.set_cons_zero List.set_cons_succ List.length_cons List.length_nil List.length_set List.take_succ_cons List.take_zero List.drop_succ_cons List.drop_zero in
theorem aBf (a b:List (List Int)) (fr to:Int) (G:aU a) (H:aU b):Fz F.mR [.sl 1 (E cC a),.sl 1 (E cC b),.agg (cFd fr to)] (.tup [mtV fr to a b,.v (.int .i64 (mtC fr to a b))]):=by
 have M:[[AV.sl 1 (E cC a)],[AV.sl 1 (E cC b)]]=E cD [a,b]:=rfl;by_cases I:iQ fr to [a,b]=0
 rotate_left
 ·have e1:(iQ fr to [a,b] != 0)=true:=by simp[I]
  refine fn0 Cd.i_MatchDecks_k fun X=>?_
  repeat' first|simp -dsimp only[go_sem,cFd,M,e1]|apply Br.mk<;>intro h<;>try simp -dsimp only[h]|refine aD.c (by first|exact uI fr to [a,b] (zF G H)) ?_|refine aC ?_|fail
  all_goals simp[mtV,mtC,I]
 obtain⟨⟨Y,db⟩,⟨fa,fb⟩,ca,cb⟩:=aBw I;have J:=dV Y fa;have L:=dV db fb;cases hs:gQ fr to a&&gQ fr to b
 ·have hn:(!gQ fr to a||!gQ fr to b)=true:=by
   cases O:gQ fr to a<;>cases h2:gQ fr to b<;>simp_all
  refine fn0 Cd.i_MatchDecks_k fun X=>?_
  repeat' first|simp -dsimp only[go_sem,cFd,M,I]|apply Br.mk<;>intro h<;>try simp -dsimp only[h]|refine aD.c (by first|exact uI fr to [a,b] (zF G H)|exact aT a fr to J G.1|exact aT b fr to L H.1) ?_|refine aC ?_|fail
  all_goals first|(simp_all [mtV,mtC];done)|(refine aV ?_;simp_all [mtV,mtC];done)
 have O:gQ fr to a=true:=by simp only[Bool.and_eq_true] at hs;exact hs.1
 have h2:gQ fr to b=true:=by simp only[Bool.and_eq_true] at hs;exact hs.2
 refine fn0 Cd.i_MatchDecks_k fun X=>?_
 repeat' first|simp -dsimp only[go_sem,cFd,M,I,O,h2]|apply Br.mk<;>intro h<;>try simp -dsimp only[h]|refine aD.c (by first|exact uI fr to [a,b] (zF G H)|exact aT a fr to J G.1|exact aT b fr to L H.1|exact aDH a b fr to true G.2 G.1 H.1 J L|exact aDH b a fr to true H.2 H.1 G.1 L J|exact aDH a b fr to false G.2 G.1 H.1 J L|exact aDH b a fr to false H.2 H.1 G.1 L J) ?_|refine aC ?_|fail
 all_goals (have U:mtC fr to a b=0:=by simp[mtC,I,hs]
            have hv:mtV fr to a b=.sl 1 (E cD (mtL fr to a b)):=by simp[mtV,U]
            rw[U,hv]

            first|exact⟨_,_,rfl,rfl⟩|(refine aV rfl))
end
section
variable [Vs.Envs]
attribute [local irreducible] Vs.Fn chOK areCh chTo chAt l03 chB rk cd3 chI stp stpTo stb
theorem aFq (g:FuncId) (caps:List AV) (G:dJ caps=true) (H:Int→Int→Int) (D:Int→Prop) (L:aAv Tryz.prog g caps H D) (l:List Int) (J:∀x,x∈l→D x) (M:l.length≤40) :
  Vs.Fn Tryz.prog F.gZ [.arr 1 (E cI l) false] [.loc (.b 0) 0 l.length,.fn g caps] (.tup []) [some (.arr 1 (E cI (stb (ltf H) l)) false)]:=by
 have I:=stable g caps G H D L l J M;refine fn1 Cd.sortst___int64_k [.b 0] [.arr 1 (E cI (stb (ltf H) l)) false] fun X=>?_;unfold Cd.gZ
 repeat' first|simp -dsimp only[go_sem,List.flatMap_cons,List.flatMap_nil,bI,dF,bH,List.getD_cons_zero,List.append_nil,List.nil_append,List.cons_append,aG G _ 6,aG G _ 7,aI]|apply Br.mk<;>intro h<;>try simp -dsimp only[h]|refine aD.bor (by first|exact I) rfl ?_|refine aC ?_|fail
 all_goals first|exact⟨_,_,rfl,rfl⟩
def cfO (fr to:Int) (l:List (List Int)) (i j:Int):Int:=cmF fr to (l.getD i.toNat []) (l.getD j.toNat [])
def inO (n:Nat) (x:Int):Prop:=0≤x∧x<(n:Int)
theorem aAR {l:List (List Int)}{x:Int} (h:inO l.length x):(E cC l).getD x.toNat []=[.sl 1 (E cI (l.getD x.toNat []))]:=by
 have F:x.toNat<l.length:=by have:=h.1;have:=h.2;omega
 rw[aS F];simp[cC,List.getD,F]
theorem mK {l:List (List Int)}{x:Int} (h:inO l.length x):l.getD x.toNat []∈l:=by
 have F:x.toNat<l.length:=by have:=h.1;have:=h.2;omega
 have e:l.getD x.toNat []=l[x.toNat]:=by simp[List.getD,F]
 rw[e];exact List.getElem_mem F
theorem aIM (l:List (List Int)) (fr to:Int) (ho:∀c,c∈l→okF fr to c):aAv Tryz.prog F.lX [.ro [.sl 1 (E cC l)],.ro (cFd fr to)] (cfO fr to l) (inO l.length):=by
 intro x y G H;have I:=aAR G;have J:=aAR H;have L:=G.1;have M:=G.2;have O:=H.1;have U:=H.2;have C:=kZ (l.getD x.toNat []) (l.getD y.toNat []) fr to (ho _ (mK G)) (ho _ (mK H));rw[show cmF fr to (l.getD x.toNat []) (l.getD y.toNat [])=cfO fr to l x y from rfl] at C;refine fn0 Cd.i_orderBy_1_k fun X=>?_
 repeat' first|simp -dsimp only[go_sem,cC,cFd,I,J,aI]|apply Br.mk<;>intro h<;>try simp -dsimp only[h]|refine aD.c (by first|exact C) ?_|refine aC ?_|fail
 all_goals first|exact⟨_,_,rfl,rfl⟩|simp
def iota (n:Nat):List Int:=(List.range n).map fun i:Nat=>(i:Int)
theorem aCS (n:Nat):iota (n+1)=iota n++[(n:Int)]:=by simp[iota,List.range_succ]
theorem mP (n:Nat):(iota n).length=n:=by simp[iota]
theorem aBs {n:Nat}:∀x,x∈iota n→inO n x:=by
 intro x F;obtain⟨i,hi,rfl⟩:=List.mem_map.1 F;have:=List.mem_range.1 hi;exact⟨by omega,by omega⟩
def mJ (fr to:Int) (l:List (List Int)):List Int:=stb (ltf (cfO fr to l)) (iota l.length)
theorem wE (fr to:Int) (l:List (List Int)):(mJ fr to l).length=l.length:=by rw[mJ,aFo,mP]
attribute [local go_sem] aI in
theorem aKf (l:List (List Int)) (fr to:Int) (ho:∀c,c∈l→okF fr to c) (hl:l.length≤40):Fz F.uA [.sl 1 (E cC l),.agg (cFd fr to)] (.sl 1 (E cI (mJ fr to l))):=by
 refine fn0 Cd.i_orderBy_k fun X=>?_
 repeat' first|simp -dsimp only[go_sem,cC,cFd]|apply Br.mk<;>intro h<;>try simp -dsimp only[h]|refine aC ?_|fail
 refine aN.at dM (X:={zz:Nat×(Unit) // zz.1≤l.length∧True}) (fun zz=>[(5,.loc (.t 5 0) 0 zz.1.1),(10,.v (.int .i64 zz.1.1))]) (fun zz=>[(.t 5 0,.arr 1 (E cI (iota zz.1.1)) false)]) (fun zz=>l.length-zz.1.1) ⟨(0,()),by omega,trivial⟩ ?_ ?_
 ·simp[Vs.LeL,Vs.look,Vs.aB,Vs.aQ,Vs.aL,Vs.hset,Vs.aM,Vs.E,iota]
 ·rintro⟨⟨i,_⟩,hi,hg⟩;dsimp only at hi hg;simp -dsimp only[go_sem,cC,cFd,mP,List.mem_singleton,List.mem_cons,List.not_mem_nil,or_false,false_or,Vs.Name.t.injEq,List.flatMap_cons,List.flatMap_nil,bI,dF,bH,List.getD_cons_zero,List.append_nil,List.nil_append,List.cons_append];refine Br.mk (fun hc=>?_) fun hc=>?_
  ·have hlt:i<l.length:=Dq;have hw:=aH hlt (by omega);have hap:E cI (iota i)++[[.v (.int .i64 (i:Int))]]=E cI (iota (i+1)):=by rw[aCS,aY];rfl
   repeat' first|simp -dsimp only[go_sem,hw,hap,cC,cFd,mP,List.mem_singleton,List.mem_cons,List.not_mem_nil,or_false,false_or,Vs.Name.t.injEq,List.flatMap_cons,List.flatMap_nil,bI,dF,bH,List.getD_cons_zero,List.append_nil,List.nil_append,List.cons_append]|apply Br.mk<;>intro h<;>try simp -dsimp only[h]|refine aC ?_|fail
   all_goals first|omega|(exact nx (i+1,()) trivial (h2:=by simp[Vs.LeL,Vs.look,Vs.aB,Vs.aQ,Vs.aL,Vs.hset,Vs.aM,hap]))
  ·have hge:i=l.length:=by
    have:¬i<l.length:=Dq;omega
   subst hge;simp -dsimp only[go_sem,cC,cFd,mP,List.mem_singleton,List.mem_cons,List.not_mem_nil,or_false,false_or,Vs.Name.t.injEq,List.flatMap_cons,List.flatMap_nil,bI,dF,bH,List.getD_cons_zero,List.append_nil,List.nil_append,List.cons_append];have ST:=aFq F.lX [.ro [.sl 1 (E cC l)],.ro (cFd fr to)] rfl (cfO fr to l) (inO l.length) (aIM l fr to ho) (iota l.length) aBs (by rw[mP];exact hl);rw[show stb (ltf (cfO fr to l)) (iota l.length)=mJ fr to l from rfl,mP] at ST;refine⟨⟨rfl,aD.borL ST rfl ?_⟩,fun h=>h rfl⟩;simp -dsimp only[go_sem,wE fr to l,List.mem_singleton,List.mem_cons,List.not_mem_nil,or_false,false_or,Vs.Name.t.injEq,List.flatMap_cons,List.flatMap_nil,bI,dF,bH,List.getD_cons_zero,List.append_nil,List.nil_append,List.cons_append];have htk:(E cI (mJ fr to l)).take l.length=E cI (mJ fr to l):=List.take_of_length_le (by rw[aI,wE fr to l];exact Nat.le_refl _)
   first|exact⟨_,_,rfl,rfl⟩|(simp only[htk];exact⟨_,_,rfl,rfl⟩)
theorem aAP:∀(a b:List Int),a.length=b.length→iR b a=- iR a b
 | [],[],_=>rfl
 | x::a,y::b,h=>by
  have H:=aAP a b (by simpa using h);simp only[iR];by_cases F:rk x<rk y
  ·have h2:¬rk y<rk x:=by omega
   have G:rk y>rk x:=by omega
   simp[F,h2,G]
  ·by_cases h2:rk y<rk x
   ·simp[F,h2]
   ·simp[F,h2,H]
 | [],_::_,h=>by simp at h
 |_::_,[],h=>by simp at h
theorem aC2:∀(a b c:List Int),a.length=b.length→b.length=c.length→iR a b=0→iR a c=iR b c
 | [],[],c,_,_,_=>rfl
 |x::a,y::b,[],_,h,_=>by simp at h
 | x::a,y::b,z::c,h1,h2,h=>by
  simp only[iR] at h⊢;split at h
  ·cases h
  ·split at h
   ·cases h
   ·have F:=aC2 a b c (by simpa using h1) (by simpa using h2) h;have e:rk x=rk y:=by omega
    rw[e,F]
 | [],_::_,_,h,_,_=>by simp at h
 |_::_,[],_,h,_,_=>by simp at h
theorem aCc:∀(a b c:List Int),a.length=b.length→b.length=c.length→iR a b<0→iR b c≤0→iR a c<0
 | [],[],c,_,_,h,_=>by simp[iR] at h
 |x::a,y::b,[],_,h,_,_=>by simp at h
 | x::a,y::b,z::c,h1,h2,h,h'=>by
  simp only[iR] at h h'⊢;split at h
  ·split at h'
   ·rw[if_pos (by omega)];omega
   ·split at h'
    ·omega
    ·rw[if_pos (by omega)];omega
  ·split at h
   ·omega
   ·split at h'
    ·rw[if_pos (by omega)];omega
    ·split at h'
     ·omega
     ·rw[if_neg (by omega),if_neg (by omega)];exact aCc a b c (by simpa using h1) (by simpa using h2) h h'
 | [],_::_,_,h,_,_,_=>by simp at h
 |_::_,[],_,h,_,_,_=>by simp at h
end
section
variable [Vs.Envs]
attribute [local irreducible] Vs.Fn chOK areCh chTo chAt l03 chB rk cd3 chI stp stpTo stb
def wD (fr to:Int) (l:List (List Int)) (x y:Int):Prop:=(inO l.length x∧inO l.length y)∧(cfO fr to l x y<0∨(cfO fr to l x y=0∧x<y))
section
variable {fr to:Int}{l:List (List Int)} (ho:∀c,c∈l→okF fr to c)
include ho
theorem pK {x:Int} (F:inO l.length x):(fH fr to (l.getD x.toNat [])).length=to.toNat-fr.toNat:=kQ (ho _ (mK F))
theorem aBx {x y:Int} (F:inO l.length x) (G:inO l.length y):cfO fr to l y x=- cfO fr to l x y:=aAP _ _ (by rw[pK ho F,pK ho G])
theorem aKM {x y z:Int} (G:inO l.length x) (F:inO l.length y) (H:inO l.length z) (h:cfO fr to l x y=0):cfO fr to l x z=cfO fr to l y z:=
 aC2 _ _ _ (by rw[pK ho G,pK ho F]) (by rw[pK ho F,pK ho H]) h
theorem aJy {x y z:Int} (G:inO l.length x) (F:inO l.length y) (H:inO l.length z) (h:cfO fr to l x y<0) (h':cfO fr to l y z≤0):cfO fr to l x z<0:=
 aCc _ _ _ (by rw[pK ho G,pK ho F]) (by rw[pK ho F,pK ho H]) h h'
theorem lH (x y z:Int) (F:wD fr to l x y) (h2:wD fr to l y z):wD fr to l x z:=by
 obtain⟨⟨G,I⟩,F⟩:=F;obtain⟨⟨_,H⟩,h2⟩:=h2;refine⟨⟨G,H⟩,?_⟩;rcases F with F|⟨F,h3⟩
 ·exact .inl (aJy ho G I H F (by omega))
 ·rw[aKM ho G I H F];rcases h2 with h2|⟨h2,h4⟩
  ·exact .inl h2
  ·exact .inr ⟨h2,by omega⟩
theorem aAA (x y:Int) (F:wD fr to l x y):¬wD fr to l y x:=by
 rintro⟨⟨H,G⟩,h2⟩;have e:=aBx ho G H;have F:=F.2;omega
theorem aHI:(iota l.length).Pairwise (aCz (ltf (cfO fr to l)) (wD fr to l)):=by
 unfold iota;rw[List.pairwise_map];refine List.Pairwise.imp_of_mem (R:=fun a b=>a<b) ?_ List.pairwise_lt_range;intro a b I L J;have F:inO l.length (a:Int):=⟨by omega,by have:=List.mem_range.1 I;omega⟩;have G:inO l.length (b:Int):=⟨by omega,by have:=List.mem_range.1 L;omega⟩;have e:=aBx ho F G;refine⟨?_,?_⟩
 ·simp only[ltf,decide_eq_true_eq];exact⟨fun h=>⟨⟨G,F⟩,.inl h⟩,fun h=>by have:=h.2;omega⟩
 ·by_cases h:cfO fr to l b a<0
  ·exact .inr ⟨⟨G,F⟩,.inl h⟩
  ·refine .inl ⟨⟨F,G⟩,?_⟩;by_cases H:cfO fr to l a b=0
   ·exact .inr ⟨H,by omega⟩
   ·exact .inl (by omega)
theorem aBP (F:l.length≤40):(mJ fr to l).Perm (iota l.length)∧(mJ fr to l).Pairwise (wD fr to l):=
 aJW (lH ho) (aAA ho) (by rw[mP];exact F) (aHI ho)
theorem aDA (F:l.length≤40):∀x,x∈mJ fr to l→inO l.length x:=fun x G=>aBs x ((aBP ho F).1.mem_iff.1 G)
end
attribute [local irreducible] mJ
def eH (fr to:Int) (l:List (List Int)):List (List Int):=(mJ fr to l).map fun i=>l.getD i.toNat []
attribute [local go_sem] aI List.replicate_succ List.replicate_zero List.flatten_cons List.flatten_nil List.cons_append List.nil_append List.set_cons_zero List.set_cons_succ List.length_cons List.length_nil List.length_set in
theorem zD (l:List (List Int)) (fr to:Int) (ho:∀c,c∈l→okF fr to c) (hl:l.length≤40):Fz F.nQ [.sl 1 (E cC l),.agg (cFd fr to)] (.sl 1 (E cC (eH fr to l))):=by
 have OB:=aKf l fr to ho hl;have hol:=wE fr to l;have hoi:=aDA ho hl;rw[show eH fr to l=(mJ fr to l).map (fun i=>l.getD i.toNat []) from rfl];generalize mJ fr to l=o at *
 refine fn0 Cd.i_sortedBy_k fun X=>?_
 repeat' first|simp -dsimp only[go_sem,cC,cFd]|apply Br.mk<;>intro h<;>try simp -dsimp only[h]|refine aD.c (by first|exact OB) ?_|refine aC ?_|fail
 refine aN.at dM (X:={zz:Nat×(Unit) // zz.1≤o.length∧True}) (fun zz=>[(5,.loc (.t 5 0) 0 zz.1.1),(13,.v (.int .i64 zz.1.1))]) (fun zz=>[(.t 5 0,.arr 1 (E cC ((o.take zz.1.1).map fun i=>l.getD i.toNat [])) false)]) (fun zz=>o.length-zz.1.1) ⟨(0,()),by omega,trivial⟩ ?_ ?_
 ·simp[Vs.LeL,Vs.look,Vs.aB,Vs.aQ,Vs.aL,Vs.hset,Vs.aM,Vs.E]
 ·rintro⟨⟨i,_⟩,hi,hg⟩;dsimp only at hi hg;simp -dsimp only[go_sem,cC,cFd];refine Br.mk (fun hc=>?_) fun hc=>?_
  ·have hlt:i<o.length:=Dq;have hw:=aH hlt (by omega);have hx:=hoi _ (List.getElem_mem hlt);have gx:=aAR hx;have hm:=mK hx;have hc20:(l.getD o[i].toNat []).length≤20:=(ho _ hm).2.2.2;have NC:=aBl (l.getD o[i].toNat []) (by omega);have x0:=hx.1;have x1:=hx.2
   have hap:E cC ((o.take i).map fun i=>l.getD i.toNat [])++[[.sl 1 (E cI (l.getD o[i].toNat []))]]=E cC ((o.take (i+1)).map fun i=>l.getD i.toNat []):=by
    rw[bJ hlt,List.map_append,aY];rfl
   have hal:(E cC ((o.take i).map fun i=>l.getD i.toNat [])).length=i:=by rw[aI];simp;omega
   repeat' first|simp -dsimp only[go_sem,cZ hlt,hw,hap,hal,gx,cC,cFd]|apply Br.mk<;>intro h<;>try simp -dsimp only[h]|refine aD.c (by first|exact NC) ?_|refine aC ?_|fail
   all_goals first|omega|(exact nx (i+1,()) trivial (h2:=by simp[Vs.LeL,Vs.look,Vs.aB,Vs.aQ,Vs.aL,Vs.hset,Vs.aM,hap]))
  ·have hge:i=o.length:=by
    have:¬i<o.length:=Dq;omega
   subst hge;simp -dsimp only[go_sem,cC,cFd]
   have htk:(E cC ((o.take o.length).map fun i=>l.getD i.toNat [])).take o.length=E cC (o.map fun i=>l.getD i.toNat []):=by
    rw[List.take_of_length_le (Nat.le_refl o.length)];exact List.take_of_length_le (by rw[aI];simp)
   first|exact⟨⟨_,_,rfl,rfl⟩,fun h=>h rfl⟩|(rw[htk];exact⟨⟨_,_,rfl,rfl⟩,fun h=>h rfl⟩)|(simp[htk];done)
end
end Go.Proofs.YtkgeiaideklmoaaGreat
