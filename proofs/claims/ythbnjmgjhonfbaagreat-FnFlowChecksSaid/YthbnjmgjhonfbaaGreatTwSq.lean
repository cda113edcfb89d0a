/- The sum of a field: the program's way. -/
import Derived.Test.YthbnjmgjhonfbaaGreatTwSh
import Derived.Test.YthbnjmgjhonfbaaGreatVtR
import Derived.Test.YthbnjmgjhonfbaaGreatTwC
import Derived.Test.YthbnjmgjhonfbaaGreatTwQd
set_option linter.all false
set_option maxHeartbeats 8000000
namespace Go.Proofs.YthbnjmgjhonfbaaGreat
open Go.Vs
section
variable [Vs.Envs]
attribute [local irreducible] Vs.Fn cZ aW dB dC l03 chB rk cd3 chI stp aZ flt sD zR aAF mat kH iW stF
attribute [local go_sem] List.replicate_succ List.replicate_zero List.flatten_cons List.flatten_nil List.cons_append List.nil_append List.set_cons_zero List.set_cons_succ List.length_cons List.length_nil List.length_set
theorem aG2:∀{a b:List Int},a.length=b.length→cK a=true→cK b=true→(jC a b=0↔a=b)
 | [],[],_,_,_=>by simp[jC]
 | [],y::b,h,_,_=>by simp at h
 |x::a,[],h,_,_=>by simp at h
 | x::a,y::b,h,ha,hb=>by
  simp only[cK,List.all_cons,Bool.and_eq_true,decide_eq_true_eq] at ha hb;have ih:=aG2 (a:=a) (b:=b) (by simpa using h) (by simpa[cK] using ha.2) (by simpa[cK] using hb.2);rw[jC];by_cases h1:rk x<rk y
  ·rw[if_pos h1];refine⟨fun h=>by simp at h,fun h=>?_⟩;simp only[List.cons.injEq] at h;rw[h.1] at h1;omega
  ·rw[if_neg h1];by_cases h2:rk x>rk y
   ·rw[if_pos h2];refine⟨fun h=>by simp at h,fun h=>?_⟩;simp only[List.cons.injEq] at h;rw[h.1] at h2;omega
   ·rw[if_neg h2,ih];have hxy:x=y:=aIA ha.1 (by omega);simp[hxy]
theorem aJ6 {a b:List Int} (hl:a.length=b.length) (ha:cK a=true) (hb:cK b=true) (h:(txt a).data.toList=(txt b).data.toList):a=b:=by
 apply List.ext_getElem hl;intro i h1 h2;have e1:=aDF ha h1;have e2:=aDF hb h2;rw[h,e2] at e1;have r1:=aBY a[i];have r2:=aBY b[i];have g1:=uL ha h1;have g2:=uL hb h2;have:=aG3 (rk b[i]).toNat (by omega) (rk a[i]).toNat (by omega) e1;exact aIA g1 (by omega)
theorem aDE {a b:List Int} (hl:a.length=b.length) (ha:cK a=true) (hb:cK b=true):((txt a).toList==(txt b).toList)=(jC a b==0):=by
 rw[ByteArray.toList_eq,ByteArray.toList_eq];have h:=aG2 hl ha hb;by_cases e:a=b
 ·subst e;have:jC a a=0:=h.2 rfl;simp[this]
 ·have h1:¬jC a b=0:=fun h'=>e (h.1 h');have h2:¬(txt a).data.toList=(txt b).data.toList:=fun h'=>e (aJ6 hl ha hb h');have e1:((txt a).data.toList==(txt b).data.toList)=false:=beq_eq_false_iff_ne.2 h2;have e2:(jC a b==0)=false:=beq_eq_false_iff_ne.2 h1;rw[e1,e2]
theorem aL5 (l:List Int) (hl:l.length≤1048576):Fz F.oQ [.sl 1 (E cI l)] (.sl 1 (E cI l)):=by
 refine fn0 Cd.s_l00Own_k fun X=>?_;simp -dsimp only[go_sem]
 first
  |exact⟨by omega,rfl,⟨rfl,by omega,by omega⟩,_,_,rfl,rfl⟩
  |exact⟨by omega,rfl,⟨by omega,by omega⟩,_,_,rfl,rfl⟩
  |exact⟨⟨by omega,by omega⟩,⟨by omega,by omega⟩,_,_,rfl,rfl⟩
theorem wX (c:List Int) (hc:c.length≤1048576):Fz F.jE [.ro (cC c)] (.agg (cC c)):=by
 refine fn0 Cd.s_l02Own_k fun X=>?_
 repeat' first|simp -dsimp only[go_sem,cC,cFd]|apply Br.mk<;>intro h<;>try simp -dsimp only[h]|refine aA.c (by first|exact aL5 c hc) ?_|refine aC ?_|fail
 all_goals(exact⟨_,_,rfl,rfl⟩)
theorem uA (fr to:Int) (l:List (List Int)):(bS fr to l).length=l.length:=by simp[bS]
attribute [local go_sem] aH cFd in
theorem aI2 (o:List (List Int)) (x:List Int) (fr to:Int) (ho:∀c,c∈o→okF fr to c) (hh:bI fr to o=true) (hx:okF fr to x) (hxh:cK (fH fr to x)=true) (hl:o.length≤1048576) :
  Fz F.wK [.sl 1 (E cSt (bS fr to o)),.v (.string (txt (fH fr to x)))] (.v (.bool (vZ fr to o x))):=by
 have hkl:=uA fr to o;refine fn0 Cd.s_l09Has_k fun X=>?_;simp -dsimp only[go_sem,hkl];refine aN.at dM (X:={zz:Nat×(Unit) // zz.1≤o.length∧(o.take zz.1).all (fun c=>!(cmF fr to c x==0))=true}) (fun zz=>[(5,.v (.int .i64 zz.1.1))]) (fun zz=>[]) (fun zz=>o.length-zz.1.1) ⟨(0,()),by omega,by simp⟩ ?_ ?_
 ·exact le0
 ·rintro⟨⟨i,_⟩,hi,hg⟩;dsimp only at hi hg;simp -dsimp only[go_sem,hkl];refine Br.mk (fun hc=>?_) fun hc=>?_
  ·have hlt:i<o.length:=Dq;have hw:=aG hlt hl;have hk:=ho _ (List.getElem_mem hlt);have hc:=(List.all_eq_true.1 hh) _ (List.getElem_mem hlt);have hm:(E cSt (bS fr to o)).getD i []=[.v (.string (txt (fH fr to o[i])))]:=by rw[aX (by omega)];simp[bS,cSt]
   have he:=aDE ((lC hk).trans (lC hx).symm) hc hxh;cases hz:jC (fH fr to o[i]) (fH fr to x)==0
   ·have hp:(cmF fr to o[i] x==0)=false:=hz
    repeat' first|simp -dsimp only[go_sem,hw,hm,he,hz,hkl]|apply Br.mk<;>intro h<;>try simp -dsimp only[h]|refine aC ?_|fail
    all_goals first|omega|(exact nx (i+1,()) (bE (p:=fun c=>!(cmF fr to c x==0)) hlt hg (by simp[hp])))
   ·have hp:(cmF fr to o[i] x==0)=true:=hz;have hany:vZ fr to o x=true:=List.any_eq_true.2 ⟨o[i],List.getElem_mem hlt,hp⟩
    repeat' first|simp -dsimp only[go_sem,hw,hm,he,hz,hkl]|apply Br.mk<;>intro h<;>try simp -dsimp only[h]|refine aC ?_|fail
    all_goals first|omega|(refine aO ?_;simp[hany];done)|(simp[hany];done)
  ·have hge:i=o.length:=by
    have:¬i<o.length:=Dq;omega
   subst hge;simp -dsimp only[go_sem,hkl]
   have hany:vZ fr to o x=false:=by
    unfold vZ;rw[List.any_eq_false];intro c hc;rw[List.take_length] at hg;have:=(List.all_eq_true.1 hg) c hc;simpa using this
   simp[hany]
theorem aCa {fr to:Int}{l o:List (List Int)}{e:Bool}{i:Nat} (h:i<l.length):mat fr to (l.take (i+1)) o e=mat fr to (l.take i) o e++(if vZ fr to o l[i]==e then[l[i]] else[]):=by
 unfold mat;rw[xJ h];cases vZ fr to o l[i]==e<;>simp
theorem aGJ (fr to:Int) (l o:List (List Int)) (e:Bool):(mat fr to l o e).length≤l.length:=by unfold mat;exact vN ..
theorem aIV (fr to:Int) (o:List (List Int)) (e:Bool):mat fr to [] o e=[]:=by unfold mat flt;rfl
theorem aGI {fr to:Int}{l o:List (List Int)}{e:Bool}{i:Nat} (h:i<l.length) (hh:vZ fr to o l[i]=e):E cC (mat fr to (l.take i) o e)++[[.sl 1 (E cI l[i])]]=E cC (mat fr to (l.take (i+1)) o e):=by
 rw[aCa h,hh,aY];simp[E,cC]
theorem aEN {fr to:Int}{l o:List (List Int)}{e:Bool}{i:Nat} (h:i<l.length) (hh:vZ fr to o l[i]=e):(mat fr to (l.take (i+1)) o e).length=(mat fr to (l.take i) o e).length+1:=by
 rw[aCa h,hh];simp
theorem aEM {fr to:Int}{l o:List (List Int)}{e:Bool}{i:Nat} (h:i<l.length) (hh:vZ fr to o l[i] = !e):mat fr to (l.take (i+1)) o e=mat fr to (l.take i) o e:=by
 rw[aCa h,hh];cases e<;>simp
attribute [local go_sem] aH cFd in
theorem aEX (l o:List (List Int)) (fr to:Int) (hl:bA l) (hol:o.length≤1048576) (oa:∀c,c∈l→okF fr to c) (ob:∀c,c∈o→okF fr to c) (ca:bI fr to l=true) (cb:bI fr to o=true) :
  Fz F.nQ [.sl 1 (E cC l),.sl 1 (E cSt (bS fr to l)),.sl 1 (E cSt (bS fr to o))] (.tup [.sl 1 (E cC (mat fr to l o true)),.sl 1 (E cC (mat fr to l o false))]):=by
 have hkl:=uA fr to l;have hkm:=uA fr to o;refine fn0 Cd.s_l09Match_k fun X=>?_;simp -dsimp only[go_sem,hkl,hkm];refine⟨⟨by omega,by omega⟩,⟨by omega,by omega⟩,?_⟩;refine aN.at dM (X:={zz:Nat×(Unit) // zz.1≤l.length∧True}) (fun zz=>[(8,.loc (.t 8 0) 0 (mat fr to (l.take zz.1.1) o true).length),(9,.loc (.t 9 0) 0 (mat fr to (l.take zz.1.1) o false).length),(10,.v (.int .i64 zz.1.1))]) (fun zz=>[(.t 8 0,.arr 1 (E cC (mat fr to (l.take zz.1.1) o true)) false),(.t 9 0,.arr 1 (E cC (mat fr to (l.take zz.1.1) o false)) false)]) (fun zz=>l.length-zz.1.1) ⟨(0,()),by omega,trivial⟩ ?_ ?_
 ·simp[Vs.LeL,Vs.look,Vs.aB,Vs.aP,Vs.aK,Vs.hset,Vs.aL,aIV,Vs.E]
 ·rintro⟨⟨i,_⟩,hi,hg⟩;dsimp only at hi hg;simp -dsimp only[go_sem,hkl];refine Br.mk (fun hc=>?_) fun hc=>?_
  ·have hlt:i<l.length:=Dq;have hw:=aG hlt hl.1;have hk:=oa _ (List.getElem_mem hlt);have hc:=(List.all_eq_true.1 ca) _ (List.getElem_mem hlt);have hs:=hl.2 _ (List.getElem_mem hlt);have hm:(E cSt (bS fr to l)).getD i []=[.v (.string (txt (fH fr to l[i])))]:=by rw[aX (by omega)];simp[bS,cSt]
   have hm2:(E cC l).getD i []=[.sl 1 (E cI l[i])]:=aX hlt;have hb1:=aGJ fr to (l.take i) o true;have hb2:=aGJ fr to (l.take i) o false;have ht:(l.take i).length=i:=by simp;omega
   have hl1:=hl.1;cases hz:vZ fr to o l[i]
   ·have g1:=aGI (e:=false) hlt hz;have g2:=aEN (e:=false) hlt hz;have g3:=aEM (e:=true) hlt hz
    repeat' first|simp -dsimp only[go_sem,hw,hm,hm2,hz,g1,hkl,cC]|apply Br.mk<;>intro h<;>try simp -dsimp only[h]|refine aA.c (by first|exact aI2 o l[i] fr to ob cb hk hc hol|exact wX l[i] hs) ?_|refine aC ?_|fail
    all_goals first|omega|(exact nx (i+1,()) trivial (h2:=by simp[Vs.LeL,Vs.look,Vs.aB,Vs.aP,Vs.aK,Vs.hset,Vs.aL,g2,g3]))
   ·have g1:=aGI (e:=true) hlt hz;have g2:=aEN (e:=true) hlt hz;have g3:=aEM (e:=false) hlt hz
    repeat' first|simp -dsimp only[go_sem,hw,hm,hm2,hz,g1,hkl,cC]|apply Br.mk<;>intro h<;>try simp -dsimp only[h]|refine aA.c (by first|exact aI2 o l[i] fr to ob cb hk hc hol|exact wX l[i] hs) ?_|refine aC ?_|fail
    all_goals first|omega|(exact nx (i+1,()) trivial (h2:=by simp[Vs.LeL,Vs.look,Vs.aB,Vs.aP,Vs.aK,Vs.hset,Vs.aL,g2,g3]))
  ·have hge:i=l.length:=by
    have:¬i<l.length:=Dq;omega
   subst hge;simp -dsimp only[go_sem,hkl];rw[List.take_length];have k1:(E cC (mat fr to l o true)).take (mat fr to l o true).length=E cC (mat fr to l o true):=aA6 _;have k2:(E cC (mat fr to l o false)).take (mat fr to l o false).length=E cC (mat fr to l o false):=aA6 _;exact⟨⟨_,_,rfl,rfl⟩,fun h=>h rfl⟩
def twV (fr to:Int) (a b d:List (List Int)):AV:=if kH fr to [a,b]=0 then .sl 1 (E cSt (bS fr to d)) else .v (.slice none 0 0)
theorem aF8 (fr to:Int) (a b:List (List Int)):kH fr to [a,b]=if aS a&&aS b then(if dJ fr to (aT a)&&dJ fr to (aT b) then(if bI fr to a&&bI fr to b then 0 else 8) else 2) else 1:=by
 unfold kH;simp only[List.all_cons,List.all_nil,Bool.and_true]
theorem aDY (a b:List (List Int)) (fr to:Int) (ha:bA a) (hb:bA b):Fz F.qV [.sl 1 (E cC a),.sl 1 (E cC b),.agg (cFd fr to)] (.tup [twV fr to a b a,twV fr to a b b,.v (.int .i64 (kH fr to [a,b]))]):=by
 have hcc:=aF8 fr to a b;cases da:aS a
 ·refine fn0 Cd.s_l09Two_k fun X=>?_
  repeat' first|simp -dsimp only[go_sem,cFd,da]|apply Br.mk<;>intro h<;>try simp -dsimp only[h]|refine aA.c (by first|exact dG a ha.2 ha.1|exact dG b hb.2 hb.1) ?_|refine aC ?_|fail
  all_goals simp_all [twV]
 cases db:aS b
 ·refine fn0 Cd.s_l09Two_k fun X=>?_
  repeat' first|simp -dsimp only[go_sem,cFd,da,db]|apply Br.mk<;>intro h<;>try simp -dsimp only[h]|refine aA.c (by first|exact dG a ha.2 ha.1|exact dG b hb.2 hb.1) ?_|refine aC ?_|fail
  all_goals simp_all [twV]
 cases fa:dJ fr to (aT a)
 ·refine fn0 Cd.s_l09Two_k fun X=>?_
  repeat' first|simp -dsimp only[go_sem,cFd,da,db,fa]|apply Br.mk<;>intro h<;>try simp -dsimp only[h]|refine aA.c (by first|exact dG a ha.2 ha.1|exact dG b hb.2 hb.1|exact dO a|exact dO b|exact dS fr to (aT a)|exact dS fr to (aT b)) ?_|refine aC ?_|fail
  all_goals simp_all [twV]
 cases fb:dJ fr to (aT b)
 ·refine fn0 Cd.s_l09Two_k fun X=>?_
  repeat' first|simp -dsimp only[go_sem,cFd,da,db,fa,fb]|apply Br.mk<;>intro h<;>try simp -dsimp only[h]|refine aA.c (by first|exact dG a ha.2 ha.1|exact dG b hb.2 hb.1|exact dO a|exact dO b|exact dS fr to (aT a)|exact dS fr to (aT b)) ?_|refine aC ?_|fail
  all_goals simp_all [twV]
 have ka:bG fr to a=if bI fr to a then 0 else 8:=by unfold bG;rw[da,fa];rfl
 have kb:bG fr to b=if bI fr to b then 0 else 8:=by unfold bG;rw[db,fb];rfl
 cases ca:bI fr to a<;>cases cb:bI fr to b
 ·have ka2:bG fr to a=_:=ka;have kb2:bG fr to b=_:=kb;rw[ca] at ka2;rw[cb] at kb2;simp only[if_true,if_false,Bool.false_eq_true] at ka2 kb2;have KA:=j6 a fr to ha.2 ha.1;have KB:=j6 b fr to hb.2 hb.1;simp only[gY,ka2,kb2,if_true,if_false,Int.reduceEq] at KA KB;refine fn0 Cd.s_l09Two_k fun X=>?_;simp -dsimp only[go_sem,cFd,da,db,fa,fb]
  repeat' first|simp -dsimp only[go_sem,cFd,da,db,fa,fb,ka2,kb2]|apply Br.mk<;>intro h<;>try simp -dsimp only[h]|refine aA.c (by first|exact dG a ha.2 ha.1|exact dG b hb.2 hb.1|exact dO a|exact dO b|exact dS fr to (aT a)|exact dS fr to (aT b)|exact KA|exact KB) ?_|refine aC ?_|fail
  all_goals simp_all [twV,gY]
 ·have ka2:bG fr to a=_:=ka;have kb2:bG fr to b=_:=kb;rw[ca] at ka2;rw[cb] at kb2;simp only[if_true,if_false,Bool.false_eq_true] at ka2 kb2;have KA:=j6 a fr to ha.2 ha.1;have KB:=j6 b fr to hb.2 hb.1;simp only[gY,ka2,kb2,if_true,if_false,Int.reduceEq] at KA KB;refine fn0 Cd.s_l09Two_k fun X=>?_;simp -dsimp only[go_sem,cFd,da,db,fa,fb]
  repeat' first|simp -dsimp only[go_sem,cFd,da,db,fa,fb,ka2,kb2]|apply Br.mk<;>intro h<;>try simp -dsimp only[h]|refine aA.c (by first|exact dG a ha.2 ha.1|exact dG b hb.2 hb.1|exact dO a|exact dO b|exact dS fr to (aT a)|exact dS fr to (aT b)|exact KA|exact KB) ?_|refine aC ?_|fail
  all_goals simp_all [twV,gY]
 ·have ka2:bG fr to a=_:=ka;have kb2:bG fr to b=_:=kb;rw[ca] at ka2;rw[cb] at kb2;simp only[if_true,if_false,Bool.false_eq_true] at ka2 kb2;have KA:=j6 a fr to ha.2 ha.1;have KB:=j6 b fr to hb.2 hb.1;simp only[gY,ka2,kb2,if_true,if_false,Int.reduceEq] at KA KB;refine fn0 Cd.s_l09Two_k fun X=>?_;simp -dsimp only[go_sem,cFd,da,db,fa,fb]
  repeat' first|simp -dsimp only[go_sem,cFd,da,db,fa,fb,ka2,kb2]|apply Br.mk<;>intro h<;>try simp -dsimp only[h]|refine aA.c (by first|exact dG a ha.2 ha.1|exact dG b hb.2 hb.1|exact dO a|exact dO b|exact dS fr to (aT a)|exact dS fr to (aT b)|exact KA|exact KB) ?_|refine aC ?_|fail
  all_goals simp_all [twV,gY]
 ·have ka2:bG fr to a=_:=ka;have kb2:bG fr to b=_:=kb;rw[ca] at ka2;rw[cb] at kb2;simp only[if_true,if_false,Bool.false_eq_true] at ka2 kb2;have KA:=j6 a fr to ha.2 ha.1;have KB:=j6 b fr to hb.2 hb.1;simp only[gY,ka2,kb2,if_true,if_false,Int.reduceEq] at KA KB;refine fn0 Cd.s_l09Two_k fun X=>?_;simp -dsimp only[go_sem,cFd,da,db,fa,fb]
  repeat' first|simp -dsimp only[go_sem,cFd,da,db,fa,fb,ka2,kb2]|apply Br.mk<;>intro h<;>try simp -dsimp only[h]|refine aA.c (by first|exact dG a ha.2 ha.1|exact dG b hb.2 hb.1|exact dO a|exact dO b|exact dS fr to (aT a)|exact dS fr to (aT b)|exact KA|exact KB) ?_|refine aC ?_|fail
  all_goals simp_all [twV,gY]
theorem vR (a b:List (List Int)) (fr to:Int) (ha:bA a) (hb:bA b):Fz F.mP [.sl 1 (E cC a),.sl 1 (E cC b),.agg (cFd fr to)] (.tup [mtV fr to a b,.v (.int .i64 (mtC fr to a b))]):=by
 by_cases hc:kH fr to [a,b]=0
 rotate_left
 ·have e1:(kH fr to [a,b] != 0)=true:=by simp[hc]
  refine fn0 Cd.s_MatchDecks_k fun X=>?_
  repeat' first|simp -dsimp only[go_sem,cFd,e1]|apply Br.mk<;>intro h<;>try simp -dsimp only[h]|refine aA.c (by first|exact aDY a b fr to ha hb) ?_|refine aC ?_|fail
  all_goals simp[mtV,mtC,hc]
 obtain⟨⟨da,db⟩,⟨fa,fb⟩,ca,cb⟩:=aBI hc;have oa:=dW da fa;have ob:=dW db fb;have va:twV fr to a b a=.sl 1 (E cSt (bS fr to a)):=by simp[twV,hc]
 have vb:twV fr to a b b=.sl 1 (E cSt (bS fr to b)):=by simp[twV,hc]
 have sa:=dL fr to a;have sb:=dL fr to b
 have CC:Fz F.qV [.sl 1 (E cC a),.sl 1 (E cC b),.agg (cFd fr to)] (.tup [.sl 1 (E cSt (bS fr to a)),.sl 1 (E cSt (bS fr to b)),.v (.int .i64 0)]):=by
  have h:=aDY a b fr to ha hb;rw[va,vb,hc] at h;exact h
 cases hs:iW fr to a&&iW fr to b
 ·refine fn0 Cd.s_MatchDecks_k fun X=>?_
  repeat' first|simp -dsimp only[go_sem,cFd,sa,sb]|apply Br.mk<;>intro h<;>try simp -dsimp only[h]|refine aA.c (by first|exact CC|exact cB a fr to oa ca ha.1|exact cB b fr to ob cb hb.1) ?_|refine aC ?_|fail
  all_goals first|(simp_all [mtV,mtC];done)|(refine aO ?_;simp_all [mtV,mtC];done)
 have h1:iW fr to a=true:=by simp only[Bool.and_eq_true] at hs;exact hs.1
 have h2:iW fr to b=true:=by simp only[Bool.and_eq_true] at hs;exact hs.2
 rw[h1] at sa;rw[h2] at sb;refine fn0 Cd.s_MatchDecks_k fun X=>?_;simp -dsimp only[go_sem,cFd,sa,sb]
 repeat' first|simp -dsimp only[go_sem,cFd,sa,sb,Bool.not_true,Bool.or_false,Bool.false_or,List.take_succ_cons,List.take_zero,List.drop_succ_cons,List.drop_zero]|apply Br.mk<;>intro h<;>try simp -dsimp only[h]|refine aA.c (by first|exact CC|exact cB a fr to oa ca ha.1|exact cB b fr to ob cb hb.1|exact aEX a b fr to ha hb.1 oa ob ca cb|exact aEX b a fr to hb ha.1 ob oa cb ca) ?_|refine aC ?_|fail
 all_goals (have hz:mtC fr to a b=0:=by simp[mtC,hc,hs]
            have hv:mtV fr to a b=.sl 1 (E cD (mtL fr to a b)):=by simp[mtV,hz]
            rw[hz,hv]
            first|exact⟨_,_,rfl,rfl⟩|(refine aO rfl)|trace_state)
end
section
variable [Vs.Envs]
attribute [local irreducible] Vs.Fn cZ aW dB dC l03 chB rk cd3 chI stp aZ stb oW
theorem aGP (l:List Int) (hl:l.length≤1048576):Vs.Fn Tryz.prog F.oQ [] [.sl 1 (E cI l)] (.loc (.b 0) 0 l.length) [some (.arr 1 (E cI l) false)]:=by
 refine fn1 Cd.s_l00Own_k [.t 5 0] [.arr 1 (E cI l) false] fun X=>?_;unfold Cd.oQ
 repeat' first|simp -dsimp only[go_sem,aH,List.flatMap_cons,List.flatMap_nil,bC,bO,bB,List.getD_cons_zero,List.append_nil,List.nil_append,List.cons_append]|apply Br.mk<;>intro h<;>try simp -dsimp only[h]|refine aC ?_|fail
 all_goals first|exact⟨_,_,rfl,rfl⟩
def uO (cf:Int→Int→Int) (i:Int) (o:List Int):Nat→Nat
 |0=>0
 |k+1=>if cf i (o.getD k 0)<0 then uO cf i o k else k+1
theorem aHX (cf:Int→Int→Int) (i:Int) (o:List Int):uO cf i o 0=0:=rfl
theorem aAW (cf:Int→Int→Int) (i:Int) (o:List Int) (k:Nat):uO cf i o (k+1)=if cf i (o.getD k 0)<0 then uO cf i o k else k+1:=rfl
theorem aD9 (cf:Int→Int→Int) (i:Int) (o:List Int):∀k,uO cf i o k≤k
 |0=>Nat.le_refl _
 | k+1=>by
  rw[uO];split
  ·exact Nat.le_succ_of_le (aD9 cf i o k)
  ·exact Nat.le_refl _
def fF (cf:Int→Int→Int):Nat→List Int
 |0=>[]
 |n+1=>(fF cf n).take (uO cf n (fF cf n) (fF cf n).length)++[(n:Int)]++(fF cf n).drop (uO cf n (fF cf n) (fF cf n).length)
theorem tX (cf:Int→Int→Int):∀n,(fF cf n).Perm (iota n)
 |0=>List.Perm.refl _
 | n+1=>by
  rw[fF,aDf];generalize uO cf n (fF cf n) (fF cf n).length=k
  have h1:((fF cf n).take k++[(n:Int)]++(fF cf n).drop k).Perm ((fF cf n).take k++(fF cf n).drop k++[(n:Int)]):=by
   rw[List.append_assoc,List.append_assoc];exact List.Perm.append_left _ List.perm_append_comm
  rw[List.take_append_drop] at h1;exact h1.trans (List.Perm.append_right _ (tX cf n))
theorem aB2 (cf:Int→Int→Int) (n:Nat):(fF cf n).length=n:=by rw[(tX cf n).length_eq,mW]
end
section
variable [Vs.Envs]
attribute [local irreducible] Vs.Fn cZ aW dB dC l03 chB rk cd3 chI stp aZ stb oW fF uO
theorem aI8 {fr to:Int}{l:List (List Int)}{x:Int} (h:inO l.length x):(E cSt (bS fr to l)).getD x.toNat []=[.v (.string (txt (fH fr to (l.getD x.toNat []))))]:=by
 have hlt:x.toNat<l.length:=by have:=h.1;have:=h.2;omega
 rw[aX (by simpa[bS] using hlt)];simp[cSt,bS,List.getD,hlt]
attribute [local go_sem] aH List.mem_singleton List.mem_cons List.not_mem_nil or_false false_or Vs.Name.t.injEq List.flatMap_cons List.flatMap_nil bC bO bB List.getD_cons_zero List.append_nil List.nil_append List.cons_append in
theorem aHK (l:List (List Int)) (fr to:Int) (ho:∀c,c∈l→okF fr to c) (hall:bI fr to l=true) (hl:l.length≤40):Fz F.oP [.sl 1 (E cSt (bS fr to l))] (.sl 1 (E cI (fF (cfO fr to l) l.length))):=by
 have hkl:(E cSt (bS fr to l)).length=l.length:=by rw[aH];simp[bS]
 have hch:∀x,inO l.length x→cK (fH fr to (l.getD x.toNat []))=true:=fun x hx=>List.all_eq_true.1 hall _ (mU hx)
 have hcp:∀x y,inO l.length x→inO l.length y→Fz F.fM [.v (.string (txt (fH fr to (l.getD x.toNat [])))),.v (.string (txt (fH fr to (l.getD y.toNat []))))] (.v (.int .i64 (cfO fr to l x y))):=fun x y hx hy =>
  vI _ _ (aAC (ho _ (mU hx))) (by rw[pY ho hx,pY ho hy]) (hch x hx) (hch y hy)
 have hke:∀x,inO l.length x→(E cSt (bS fr to l)).getD x.toNat []=[.v (.string (txt (fH fr to (l.getD x.toNat []))))]:=fun x hx=>aI8 hx;generalize E cSt (bS fr to l)=K at *
 generalize cfO fr to l=cf at *
 refine fn0 Cd.s_l07Places_k fun X=>?_
 repeat' first|simp -dsimp only[go_sem,List.length_take,List.length_drop,hkl]|apply Br.mk<;>intro h<;>try simp -dsimp only[h]|refine aC ?_|fail
 refine aN.at dM (X:={zz:Nat×(Unit) // zz.1≤l.length∧True}) (fun zz=>[(3,.loc (.t 3 0) 0 zz.1.1),(4,.v (.int .i64 zz.1.1))]) (fun zz=>[(.t 3 0,.arr 1 (E cI (fF cf zz.1.1)) false)]) (fun zz=>l.length-zz.1.1) ⟨(0,()),by omega,trivial⟩ ?_ ?_
 ·simp[Vs.LeL,Vs.look,Vs.aB,Vs.aP,Vs.aK,Vs.hset,Vs.aL,Vs.E,fF]
 ·rintro⟨⟨i,_⟩,hi,hg⟩;dsimp only at hi hg;simp -dsimp only[go_sem,List.length_take,List.length_drop,hkl];refine Br.mk (fun hc=>?_) fun hc=>?_
  ·have hlt:i<l.length:=Dq;have hw:=aG hlt (by omega);have hpl:=aB2 cf i
   have hpi:∀k,k<i→inO l.length ((fF cf i).getD k 0):=fun k hk=>by
    have h1:=aBE _ ((tX cf i).mem_iff.1 (fG (by omega:k<(fF cf i).length)));exact⟨h1.1,by have:=h1.2;omega⟩
   have hii:inO l.length (i:Int):=⟨by omega,by omega⟩;have hki:=hke _ hii;rw[Int.toNat_natCast] at hki;have hps:fF cf (i+1)=(fF cf i).take (uO cf i (fF cf i) (fF cf i).length)++[(i:Int)]++(fF cf i).drop (uO cf i (fF cf i) (fF cf i).length):=by rw[fF]
   rw[hpl] at hps;have hdl:=aD9 cf i (fF cf i) i;generalize fF cf i=o at *
   generalize hd:uO cf i o i=d at *
   simp -dsimp only[go_sem,hkl,hw,List.length_take,List.length_drop];refine aN.at dM (X:={k:Nat // k≤i∧uO cf i o k=d}) (fun k=>[(5,.v (.int .i64 (k.1:Nat)))]) (fun k=>[]) (fun k=>k.1) ⟨i,Nat.le_refl _,hd⟩ ?_ ?_
   ·exact le0
   ·rintro⟨k,hk,hkd⟩
    try dsimp only at hk hkd
    match k,hk,hkd with
    | 0,hk,hkd =>
     have e1:decide (((0:Nat):Int)>0)=false:=rfl;obtain rfl:d=0:=by rw[←hkd,aHX]
     simp -dsimp only[go_sem,e1,List.length_take,List.length_drop];have htk:(E cI o).take (0)=E cI (o.take (0)):=by simp[E,List.map_take]
     have hdk:((E cI o).drop (0)).take (i-(0))=E cI (o.drop (0)):=by rw[List.take_of_length_le (by rw[List.length_drop,aH];omega)];simp[E,List.map_drop]
     have hlt2:(o.take (0)).length=0:=by first|(simp;done)|(simp;omega)
     have hdl2:(o.drop (0)).length=i-(0):=by rw[List.length_drop,hpl]
     have OW:=aGP (o.take (0)) (by omega);rw[hlt2] at OW;have hap:E cI (o.take (0))++[[.v (.int .i64 (i:Int))]]=E cI (o.take (0)++[(i:Int)]):=by rw[aY];rfl
     have hfin:E cI (o.take (0)++[(i:Int)])++E cI (o.drop (0))=E cI (fF cf (i+1)):=by simp only[hps,aY]
     have hz:((((0:Nat):Int))-0).toNat=0:=by omega
     have hz2:((i:Int)-((0:Nat):Int)).toNat=i-(0):=by omega
     have hz3:(((0:Nat):Int)).toNat=0:=by omega
     have hfb:∀b,some b∈[some (Blk.arr 1 (E cI (o.take (0))) false)]→Vs.aAB b:=by
      intro b hb;simp only[List.mem_singleton,Option.some.injEq] at hb;subst hb;exact aGU (fun x=>rfl)
     refine RgK.mk rfl ?_;simp -dsimp only[go_sem,htk,hdk,hap,hfin,hw,hpl,hkl,e1,List.length_take,List.length_drop];refine⟨⟨⟨by omega,by omega,by omega⟩,?_⟩,fun h=>absurd rfl h⟩;simp only[hz,List.take_zero];refine aA.lend OW rfl hfb rfl ?_;have hf0:[AV.v (.int .i64 (i:Int))]::E cI o=E cI (fF cf (i+1)):=by simp only[hps];rfl
     have hnil:E cI []=[]:=rfl;have hta:(E cI o).take i=E cI o:=List.take_of_length_le (by rw[aH];omega);clear htk hdk hap hfin;simp -dsimp only[go_sem,hz,hz2,hz3,Nat.sub_zero,List.take_zero,List.replicate_succ,List.replicate_zero,List.flatten_cons,List.flatten_nil,List.set_cons_zero,List.length_cons,List.length_nil,List.length_append,hf0,hnil,hta,hw,hpl,hkl,e1,List.length_take,List.length_drop]
     repeat' (refine aC ?_)
     have hsum:1+i=i+1:=by omega
     first
      |exact⟨⟨(i+1,()),by first|omega|exact⟨by omega,trivial⟩,trivial⟩,by simp[Vs.LeL,Vs.look,Vs.aB,Vs.aP,Vs.aK,Vs.hset,Vs.aL,hsum],by simp only;omega⟩

    | k+1,hk,hkd =>
     have e1:decide (((k+1:Nat):Int)>0)=true:=by first|(simp;done)|(simp;omega)
     have w1:IntKind.i64.wrap (((k+1:Nat):Int)-1)=(k:Int):=by rw[aR (by omega) (by omega)];omega
     have hj:=hpi k (by omega);have hj0:=hj.1;have hj1:=hj.2;have hkj:=hke _ hj;have hoj:(E cI o).getD k []=[.v (.int .i64 (o.getD k 0))]:=iG (by omega);have HC:=hcp _ _ hii hj;rw[Int.toNat_natCast] at HC;rw[aAW] at hkd;by_cases hneg:cf i (o.getD k 0)<0
     ·have e2:decide (cf i (o.getD k 0)<0)=true:=decide_eq_true hneg;rw[if_pos hneg] at hkd;simp -dsimp only[go_sem,e1,e2,List.length_take,List.length_drop]
      repeat' first|simp -dsimp only[go_sem,e1,e2,w1,hkj,hki,hoj,hkl,hpl,List.length_take,List.length_drop]|apply Br.mk<;>intro h<;>try simp -dsimp only[h]|refine aA.c (by first|exact HC) ?_|refine aC ?_|fail
      all_goals first|(exact⟨⟨k,by omega,hkd⟩,by simp[Vs.LeL,Vs.look,Vs.aB,Vs.aP,Vs.aK,Vs.hset,Vs.aL],by simp only;omega⟩)|omega
     ·have e2:decide (cf i (o.getD k 0)<0)=false:=decide_eq_false hneg;rw[if_neg hneg] at hkd;obtain rfl:d=k+1:=hkd.symm;simp -dsimp only[go_sem,e1,e2,List.length_take,List.length_drop];have htk:(E cI o).take (k+1)=E cI (o.take (k+1)):=by simp[E,List.map_take]
      have hdk:((E cI o).drop (k+1)).take (i-(k+1))=E cI (o.drop (k+1)):=by rw[List.take_of_length_le (by rw[List.length_drop,aH];omega)];simp[E,List.map_drop]
      have hlt2:(o.take (k+1)).length=k+1:=by first|(simp;done)|(simp;omega)
      have hdl2:(o.drop (k+1)).length=i-(k+1):=by rw[List.length_drop,hpl]
      have OW:=aGP (o.take (k+1)) (by omega);rw[hlt2] at OW;have hap:E cI (o.take (k+1))++[[.v (.int .i64 (i:Int))]]=E cI (o.take (k+1)++[(i:Int)]):=by rw[aY];rfl
      have hfin:E cI (o.take (k+1)++[(i:Int)])++E cI (o.drop (k+1))=E cI (fF cf (i+1)):=by simp only[hps,aY]
      have hz:((((k+1:Nat):Int))-0).toNat=k+1:=by omega
      have hz2:((i:Int)-((k+1:Nat):Int)).toNat=i-(k+1):=by omega
      have hz3:(((k+1:Nat):Int)).toNat=k+1:=by omega
      have hfb:∀b,some b∈[some (Blk.arr 1 (E cI (o.take (k+1))) false)]→Vs.aAB b:=by
       intro b hb;simp only[List.mem_singleton,Option.some.injEq] at hb;subst hb;exact aGU (fun x=>rfl)
      refine RgK.mk rfl ?_;simp -dsimp only[go_sem,htk,hdk,hap,hfin,hw,hpl,hkl,e1,e2,w1,hj0,hj1,hkj,hki,hoj,List.length_take,List.length_drop];refine⟨⟨by omega,by omega⟩,⟨by omega,by omega⟩,aA.flat HC rfl ?_⟩;simp -dsimp only[go_sem,htk,hdk,hap,hfin,hw,hpl,hkl,e1,e2,w1,hj0,hj1,hkj,hki,hoj,List.length_take,List.length_drop];refine⟨⟨⟨by omega,by omega,by omega⟩,?_⟩,fun h=>absurd rfl h⟩;simp only[hz,htk];refine aA.lend OW rfl hfb rfl ?_;simp -dsimp only[go_sem,hz,hz2,hz3,Nat.sub_zero,List.take_zero,List.replicate_succ,List.replicate_zero,List.flatten_cons,List.flatten_nil,List.set_cons_zero,List.length_cons,List.length_nil,List.length_append,htk,hdk,hap,hfin,hlt2,hdl2,hw,hpl,hkl]
      repeat' (refine aC ?_)
      have hsum:k+1+1+(i-(k+1))=i+1:=by omega
      first
       |exact⟨⟨(i+1,()),by first|omega|exact⟨by omega,trivial⟩,trivial⟩,by simp[Vs.LeL,Vs.look,Vs.aB,Vs.aP,Vs.aK,Vs.hset,Vs.aL,hsum],by simp only;omega⟩

  ·have hge:i=l.length:=by
    have:¬i<l.length:=Dq;omega
   subst hge;simp -dsimp only[go_sem,List.length_take,List.length_drop,hkl];have hpl:=aB2 cf l.length;have htk:(E cI (fF cf l.length)).take l.length=E cI (fF cf l.length):=List.take_of_length_le (by rw[aH];omega)
   first|exact⟨⟨_,_,rfl,rfl⟩,fun h=>h rfl⟩|(rw[htk];exact⟨⟨_,_,rfl,rfl⟩,fun h=>h rfl⟩)|(simp[htk];done)
end
section
variable [Vs.Envs]
attribute [local irreducible] Vs.Fn cZ aW dB dC l03 chB rk cd3 chI stp aZ
theorem aGX (cf:Int→Int→Int) (i:Int) (o:List Int):∀K k,uO cf i o K≤k→k<K→cf i (o.getD k 0)<0
 |0,k,_,h=>by omega
 | K+1,k,h1,h2=>by
  rw[aAW] at h1;split at h1
  ·rename_i hn;by_cases hk:k=K
   ·subst hk;exact hn
   ·exact aGX cf i o K k h1 (by omega)
  ·omega
theorem aGW (cf:Int→Int→Int) (i:Int) (o:List Int):∀K,0<uO cf i o K→¬cf i (o.getD (uO cf i o K-1) 0)<0
 |0,h=>by simp[uO] at h
 | K+1,h=>by
  rw[aAW] at h⊢;split
  ·rename_i hn;rw[if_pos hn] at h;exact aGW cf i o K h
  ·rename_i hn;exact hn
theorem aEE {fr to:Int}{l:List (List Int)} (ho:∀c,c∈l→okF fr to c):∀n,n≤l.length→(fF (cfO fr to l) n).Pairwise (wS fr to l)
 |0,_=>List.Pairwise.nil
 | n+1,h=>by
  have ih:=aEE ho n (by omega);have hin:∀x,x∈fF (cfO fr to l) n→inO n x:=fun x hx=>aBE x ((tX _ n).mem_iff.1 hx);have hlen:=aB2 (cfO fr to l) n;rw[fF];have hhi:=aGX (cfO fr to l) n (fF (cfO fr to l) n) (fF (cfO fr to l) n).length;have hlo:=aGW (cfO fr to l) n (fF (cfO fr to l) n) (fF (cfO fr to l) n).length;have hle:=aD9 (cfO fr to l) n (fF (cfO fr to l) n) (fF (cfO fr to l) n).length;generalize uO (cfO fr to l) n (fF (cfO fr to l) n) (fF (cfO fr to l) n).length=d at *
  generalize fF (cfO fr to l) n=o at *
  have hn:inO l.length (n:Int):=⟨by omega,by omega⟩;have hup:∀x,inO n x→inO l.length x:=fun x hx=>⟨hx.1,by have:=hx.2;omega⟩
  have hgt:∀y,y∈o.drop d→wS fr to l n y:=by
   intro y hy;obtain⟨j,hj,rfl⟩:=List.mem_iff_getElem.1 hy;rw[List.length_drop] at hj;rw[List.getElem_drop];have hm:o[d+j]∈o:=List.getElem_mem _;have h1:=hhi (d+j) (by omega) (by omega);have e:o.getD (d+j) 0=o[d+j]:=by simp[List.getD,(by omega:d+j<o.length)]
   rw[e] at h1;exact⟨⟨hn,hup _ (hin _ hm)⟩,.inl h1⟩
  have hlt:∀x,x∈o.take d→wS fr to l x n:=by
   intro x hx;obtain⟨j,hj,rfl⟩:=List.mem_take_iff_getElem.1 hx;have hjd:j<d:=by omega
   have hdl:d-1<o.length:=by omega
   have h1:=hlo (by omega);have e:o.getD (d-1) 0=o[d-1]:=by simp[List.getD,hdl]
   rw[e] at h1;have hm:o[d-1]∈o:=List.getElem_mem _;have hmi:=hin _ hm;have ha:=aBK ho hn (hup _ hmi)
   have hlast:wS fr to l o[d-1] n:=by
    refine⟨⟨hup _ hmi,hn⟩,?_⟩;by_cases h0:cfO fr to l o[d-1] n=0
    ·exact .inr ⟨h0,hmi.2⟩
    ·exact .inl (by omega)
   by_cases hj1:j=d-1
   ·subst hj1;exact hlast
   ·exact lS ho _ _ _ (List.pairwise_iff_getElem.1 ih j (d-1) (by omega) hdl (by omega)) hlast
  have hsp:(o.take d++o.drop d).Pairwise (wS fr to l):=by rw[List.take_append_drop];exact ih
  obtain⟨p1,p2,p3⟩:=List.pairwise_append.1 hsp;rw[List.append_assoc,List.pairwise_append];refine⟨p1,?_,?_⟩
  ·rw[List.singleton_append,List.pairwise_cons];exact⟨hgt,p2⟩
  ·intro a ha b hb;rw[List.singleton_append,List.mem_cons] at hb;rcases hb with rfl|hb
   ·exact hlt a ha
   ·exact p3 a ha b hb
theorem aKx {fr to:Int}{l:List (List Int)} (ho:∀c,c∈l→okF fr to c) (hl:l.length≤40):fF (cfO fr to l) l.length=oW fr to l:=by
 obtain⟨h1,h2⟩:=aB4 ho hl;exact aDH (lS ho) (aAQ ho) ((tX _ _).trans h1.symm) (aEE ho _ (Nat.le_refl _)) h2
end
section
variable [Vs.Envs]
attribute [local irreducible] Vs.Fn cZ aW dB dC l03 chB rk cd3 chI stp aZ stb oW fF uO
attribute [local go_sem] aH List.replicate_succ List.replicate_zero List.flatten_cons List.flatten_nil List.cons_append List.nil_append List.set_cons_zero List.set_cons_succ List.length_cons List.length_nil List.length_set
theorem aIh (l:List (List Int)) (fr to:Int) (hs:∀x,x∈l→x.length≤1048576) (hl:l.length≤1048576):Fz F.rJ [.sl 1 (E cC l),.agg (cFd fr to)] (.v (.int .i64 (bG fr to l))):=by
 have VD:=lZ l hs hl;have DC:=iF l;have IF:=sM fr to (aT l);cases hd:aS l
 ·rw[hd] at VD;rw[show bG fr to l=1 by simp[bG,hd]];refine fn0 Cd.i_sortCode_k fun X=>?_
  repeat' first|simp -dsimp only[go_sem,cC,cFd]|apply Br.mk<;>intro h<;>try simp -dsimp only[h]|refine aA.c (by first|exact VD|exact DC|exact IF) ?_|refine aC ?_|fail
  all_goals first|exact⟨_,_,rfl,rfl⟩|simp
 rw[hd] at VD;cases hf:dJ fr to (aT l)
 ·rw[hf] at IF;rw[show bG fr to l=2 by simp[bG,hd,hf]];refine fn0 Cd.i_sortCode_k fun X=>?_
  repeat' first|simp -dsimp only[go_sem,cC,cFd]|apply Br.mk<;>intro h<;>try simp -dsimp only[h]|refine aA.c (by first|exact VD|exact DC|exact IF) ?_|refine aC ?_|fail
  all_goals first|exact⟨_,_,rfl,rfl⟩|simp
 rw[hf] at IF;have HF:=oI l fr to (dW hd hf) hl;cases ha:bI fr to l
 ·rw[ha] at HF;rw[show bG fr to l=8 by simp[bG,hd,hf,ha]];refine fn0 Cd.i_sortCode_k fun X=>?_
  repeat' first|simp -dsimp only[go_sem,cC,cFd]|apply Br.mk<;>intro h<;>try simp -dsimp only[h]|refine aA.c (by first|exact VD|exact DC|exact IF|exact HF) ?_|refine aC ?_|fail
  all_goals first|exact⟨_,_,rfl,rfl⟩|simp
 rw[ha] at HF;rw[show bG fr to l=0 by simp[bG,hd,hf,ha]];refine fn0 Cd.i_sortCode_k fun X=>?_
 repeat' first|simp -dsimp only[go_sem,cC,cFd]|apply Br.mk<;>intro h<;>try simp -dsimp only[h]|refine aA.c (by first|exact VD|exact DC|exact IF|exact HF) ?_|refine aC ?_|fail
 all_goals first|exact⟨_,_,rfl,rfl⟩|simp
def mJ (fr to:Int) (l:List (List Int)):AV:=if bG fr to l=0 then .sl 1 (E cC (bQ fr to l)) else .v (.slice none 0 0)
theorem aBD {fr to:Int}{l:List (List Int)} (h:bG fr to l=0):aS l=true∧dJ fr to (aT l)=true∧bI fr to l=true:=by
 unfold bG at h;cases hd:aS l<;>cases hf:dJ fr to (aT l)<;>cases ha:bI fr to l<;>simp[hd,hf,ha] at h⊢
theorem iE {l:List (List Int)} (h:aS l=true):l.length≤40:=by
 simp only[aS,Bool.and_eq_true,decide_eq_true_eq] at h;exact h.2
theorem aCO (l:List (List Int)) (fr to:Int) (hs:∀x,x∈l→x.length≤1048576) (hl:l.length≤1048576):Fz F.rT [.sl 1 (E cC l),.agg (cFd fr to)] (.tup [mJ fr to l,.v (.int .i64 (bG fr to l))]):=by
 have SC:=aIh l fr to hs hl;by_cases h0:bG fr to l=0
 ·obtain⟨hd,hf,ha⟩:=aBD h0;have SB:=wH l fr to (dW hd hf) (iE hd);rw[show mJ fr to l=.sl 1 (E cC (bQ fr to l)) by simp[mJ,h0],h0];rw[h0] at SC;refine fn0 Cd.i_SortedBy_k fun X=>?_
  repeat' first|simp -dsimp only[go_sem,cC,cFd]|apply Br.mk<;>intro h<;>try simp -dsimp only[h]|refine aA.c (by first|exact SC|exact SB) ?_|refine aC ?_|fail
  all_goals first|exact⟨_,_,rfl,rfl⟩|simp
 ·have e0:(bG fr to l != 0)=true:=by simp[h0]
  rw[show mJ fr to l=.v (.slice none 0 0) by simp[mJ,h0]];generalize bG fr to l=c at *
  refine fn0 Cd.i_SortedBy_k fun X=>?_
  repeat' first|simp -dsimp only[go_sem,cC,cFd,e0]|apply Br.mk<;>intro h<;>try simp -dsimp only[h]|refine aA.c (by first|exact SC) ?_|refine aC ?_|fail
  all_goals first|exact⟨_,_,rfl,rfl⟩|simp
theorem sS (l:List (List Int)) (fr to:Int) (hs:∀x,x∈l→x.length≤1048576) (hl:l.length≤1048576):Fz F.nV [.sl 1 (E cC l),.agg (cFd fr to)] (.tup [mJ fr to l,.v (.int .i64 (bG fr to l))]):=by
 have KS:=j6 l fr to hs hl;by_cases h0:bG fr to l=0
 ·obtain⟨hd,hf,ha⟩:=aBD h0;have ho:=dW hd hf;have h40:=iE hd;have PL:=aHK l fr to ho ha h40;rw[aKx ho h40] at PL;rw[show mJ fr to l=.sl 1 (E cC (bQ fr to l)) by simp[mJ,h0],h0];rw[show gY fr to l=.sl 1 (E cSt (bS fr to l)) by simp[gY,h0],h0] at KS;have hol:=wT fr to l;have hoi:=aDR ho h40;rw[show bQ fr to l=(oW fr to l).map (fun i=>l.getD i.toNat []) from rfl];generalize oW fr to l=o at *
  refine fn0 Cd.s_SortedBy_k fun X=>?_
  repeat' first|simp -dsimp only[go_sem,cC,cFd]|apply Br.mk<;>intro h<;>try simp -dsimp only[h]|refine aA.c (by first|exact KS|exact PL) ?_|refine aC ?_|fail
  refine aN.at dM (X:={zz:Nat×(Unit) // zz.1≤o.length∧True}) (fun zz=>[(9,.loc (.t 9 0) 0 zz.1.1),(10,.v (.int .i64 zz.1.1))]) (fun zz=>[(.t 9 0,.arr 1 (E cC ((o.take zz.1.1).map fun i=>l.getD i.toNat [])) false)]) (fun zz=>o.length-zz.1.1) ⟨(0,()),by omega,trivial⟩ ?_ ?_
  ·simp[Vs.LeL,Vs.look,Vs.aB,Vs.aP,Vs.aK,Vs.hset,Vs.aL,Vs.E]
  ·rintro⟨⟨i,_⟩,hi,hg⟩;dsimp only at hi hg;simp -dsimp only[go_sem,cC,cFd];refine Br.mk (fun hc=>?_) fun hc=>?_
   ·have hlt:i<o.length:=Dq;have hw:=aG hlt (by omega);have hx:=hoi _ (List.getElem_mem hlt);have gx:=aA2 hx;have hm:=mU hx;have hc20:(l.getD o[i].toNat []).length≤20:=(ho _ hm).2.2.2;have NC:=wX (l.getD o[i].toNat []) (by omega);have x0:=hx.1;have x1:=hx.2
    have hap:E cC ((o.take i).map fun i=>l.getD i.toNat [])++[[.sl 1 (E cI (l.getD o[i].toNat []))]]=E cC ((o.take (i+1)).map fun i=>l.getD i.toNat []):=by
     rw[bL hlt,List.map_append,aY];rfl
    have hal:(E cC ((o.take i).map fun i=>l.getD i.toNat [])).length=i:=by rw[aH];simp;omega
    repeat' first|simp -dsimp only[go_sem,dK hlt,hw,hap,hal,gx,cC,cFd]|apply Br.mk<;>intro h<;>try simp -dsimp only[h]|refine aA.c (by first|exact NC) ?_|refine aC ?_|fail
    all_goals first|omega|(exact nx (i+1,()) trivial (h2:=by simp[Vs.LeL,Vs.look,Vs.aB,Vs.aP,Vs.aK,Vs.hset,Vs.aL,hap]))
   ·have hge:i=o.length:=by
     have:¬i<o.length:=Dq;omega
    subst hge;simp -dsimp only[go_sem,cC,cFd]
    have htk:(E cC ((o.take o.length).map fun i=>l.getD i.toNat [])).take o.length=E cC (o.map fun i=>l.getD i.toNat []):=by
     rw[List.take_of_length_le (Nat.le_refl o.length)];exact List.take_of_length_le (by rw[aH];simp)
    first|exact⟨⟨_,_,rfl,rfl⟩,fun h=>h rfl⟩|(rw[htk];exact⟨⟨_,_,rfl,rfl⟩,fun h=>h rfl⟩)|(simp[htk];done)
 ·have e0:(bG fr to l != 0)=true:=by simp[h0]
  rw[show mJ fr to l=.v (.slice none 0 0) by simp[mJ,h0]];rw[show gY fr to l=.v (.slice none 0 0) by simp[gY,h0]] at KS;generalize bG fr to l=c at *
  refine fn0 Cd.s_SortedBy_k fun X=>?_
  repeat' first|simp -dsimp only[go_sem,cC,cFd,e0]|apply Br.mk<;>intro h<;>try simp -dsimp only[h]|refine aA.c (by first|exact KS) ?_|refine aC ?_|fail
  all_goals first|exact⟨_,_,rfl,rfl⟩|simp
end
section
variable [Vs.Envs]
attribute [local irreducible] Vs.Fn cZ aW dB dC l03 chB rk cd3 chI stb oW
theorem aCW {fr to:Int}{l:List (List Int)}:∀n,aZ fr to l n=[]→∀i,i<n→¬cmF fr to (l.getD (i+1) []) (l.getD i [])<0
 |0,_,i,hi=>by omega
 | n+1,h,i,hi=>by
  rw[aZ] at h;obtain⟨h1,h2⟩:=List.append_eq_nil_iff.1 h;by_cases hin:i=n
  ·subst hin;intro hc;rw[if_pos hc] at h2;cases h2
  ·exact aCW n h1 i (by omega)
theorem aJQ {fr to:Int}{l:List (List Int)} (h:iW fr to l=true):∀i,i+1<l.length→¬cmF fr to (l.getD (i+1) []) (l.getD i [])<0:=by
 intro i hi
 have h0:stp fr to l=[]:=by
  unfold iW at h;have:=beq_iff_eq.1 h;exact List.eq_nil_of_length_eq_zero (by omega)
 exact aCW (l.length-1) h0 i (by omega)
def skp (cf:Int→Int→Int) (na:Nat) (i:Nat):Nat→Nat→Nat
 |0,k=>k
 |m+1,k=>if cf ((na+k:Nat):Int) (i:Int)<0 then skp cf na i m (k+1) else k
def mgK (cf:Int→Int→Int) (na nb:Nat):Nat→Nat
 |0=>0
 |i+1=>skp cf na i (nb-mgK cf na nb i) (mgK cf na nb i)
def rng (a n:Nat):List Int:=(List.range' a n).map fun j:Nat=>(j:Int)
def mgI (cf:Int→Int→Int) (na nb:Nat):Nat→List Int
 |0=>[]
 |i+1=>mgI cf na nb i++rng (na+mgK cf na nb i) (mgK cf na nb (i+1)-mgK cf na nb i)++[(i:Int)]
def mgF (cf:Int→Int→Int) (na nb:Nat):List Int:=mgI cf na nb na++rng (na+mgK cf na nb na) (nb-mgK cf na nb na)
theorem aIy (a:Nat):rng a 0=[]:=rfl
theorem aEy (a n:Nat):rng a (n+1)=rng a n++[((a+n:Nat):Int)]:=by
 simp[rng,List.range'_concat]
theorem xZ (a n:Nat):(rng a n).length=n:=by simp[rng]
theorem aGx {a n:Nat}{x:Int} (h:x∈rng a n):∃j,a≤j∧j<a+n∧x=(j:Int):=by
 obtain⟨j,hj,rfl⟩:=List.mem_map.1 h;obtain⟨h1,h2⟩:=List.mem_range'_1.1 hj;exact⟨j,h1,h2,rfl⟩
theorem aDN (a m n:Nat):rng a m++rng (a+m) n=rng a (m+n):=by
 simp[rng,←List.map_append,List.range'_append]
theorem aIo {cf:Int→Int→Int}{na i nb k:Nat} (h:k<nb):skp cf na i (nb-k) k=if cf ((na+k:Nat):Int) (i:Int)<0 then skp cf na i (nb-(k+1)) (k+1) else k:=by
 rw[show nb-k=(nb-(k+1))+1 by omega,skp]
theorem aIn {cf:Int→Int→Int}{na i nb k:Nat} (h:¬k<nb):skp cf na i (nb-k) k=k:=by
 rw[show nb-k=0 by omega,skp]
theorem aFC (cf:Int→Int→Int) (na i:Nat):∀m k,k≤skp cf na i m k∧skp cf na i m k≤k+m
 |0,k=>by simp[skp]
 | m+1,k=>by
  rw[skp];split
  ·have:=aFC cf na i m (k+1);omega
  ·omega
theorem aIp (cf:Int→Int→Int) (na i:Nat):∀m k j,k≤j→j<skp cf na i m k→cf ((na+j:Nat):Int) (i:Int)<0
 |0,k,j,h1,h2=>by rw[skp] at h2;omega
 | m+1,k,j,h1,h2=>by
  rw[skp] at h2;split at h2
  ·rename_i hc;by_cases hj:j=k
   ·subst hj;exact hc
   ·exact aIp cf na i m (k+1) j (by omega) h2
  ·omega
theorem aIq (cf:Int→Int→Int) (na i:Nat):∀m k,skp cf na i m k<k+m→¬cf ((na+skp cf na i m k:Nat):Int) (i:Int)<0
 |0,k,h=>by rw[skp] at h;omega
 | m+1,k,h=>by
  rw[skp] at h⊢;split at h
  ·rename_i hc;rw[if_pos hc];exact aIq cf na i m (k+1) (by omega)
  ·rename_i hc;rw[if_neg hc];exact hc
theorem vF (cf:Int→Int→Int) (na nb:Nat):∀i,mgK cf na nb i≤nb
 |0=>Nat.zero_le _
 | i+1=>by
  have h:=vF cf na nb i;have:=aFC cf na i (nb-mgK cf na nb i) (mgK cf na nb i);rw[mgK];omega
theorem aDU (cf:Int→Int→Int) (na nb i:Nat):mgK cf na nb i≤mgK cf na nb (i+1):=by
 rw[mgK];exact(aFC cf na i _ _).1
theorem aBz (cf:Int→Int→Int) (na nb:Nat):∀i,(mgI cf na nb i).length=i+mgK cf na nb i
 |0=>rfl
 | i+1=>by
  have:=aBz cf na nb i;have h2:=aDU cf na nb i;rw[mgI];simp only[List.length_append,List.length_singleton,xZ,this];omega
theorem aEI (cf:Int→Int→Int) (na nb:Nat):∀i,(mgI cf na nb i).Perm (rng 0 i++rng na (mgK cf na nb i))
 |0=>by simp[mgI,mgK,rng]
 | i+1=>by
  have ih:=aEI cf na nb i;have h2:=aDU cf na nb i;rw[mgI,aEy]
  have e:rng na (mgK cf na nb (i+1))=rng na (mgK cf na nb i)++rng (na+mgK cf na nb i) (mgK cf na nb (i+1)-mgK cf na nb i):=by
   rw[aDN];congr 1;omega
  rw[e];generalize rng (na+mgK cf na nb i) (mgK cf na nb (i+1)-mgK cf na nb i)=r at *
  generalize rng na (mgK cf na nb i)=q at *
  generalize rng 0 i=p at *
  generalize mgI cf na nb i=o at *
  rw[Nat.zero_add]
  calc o++r++[(i:Int)] |>.Perm (p++q++r++[(i:Int)]):=List.Perm.append_right _ (List.Perm.append_right _ ih)
   _ |>.Perm (p++((q++r)++[(i:Int)])):=by rw[List.append_assoc,List.append_assoc,List.append_assoc]
   _ |>.Perm (p++([(i:Int)]++(q++r))):=List.Perm.append_left _ List.perm_append_comm
   _ |>.Perm (p++[(i:Int)]++(q++r)):=by rw[List.append_assoc]
theorem aJa (n:Nat):iota n=rng 0 n:=by simp[iota,rng,List.range_eq_range']
theorem aEJ (cf:Int→Int→Int) (na nb:Nat):(mgF cf na nb).Perm (iota (na+nb)):=by
 have h1:=aEI cf na nb na;have h2:=vF cf na nb na;unfold mgF;rw[aJa]
 have e:rng 0 (na+nb)=rng 0 na++rng na (mgK cf na nb na)++rng (na+mgK cf na nb na) (nb-mgK cf na nb na):=by
  have e1:=aDN 0 na (mgK cf na nb na);have e2:=aDN 0 (na+mgK cf na nb na) (nb-mgK cf na nb na);rw[Nat.zero_add] at e1 e2;rw[e1,e2];congr 1;omega
 rw[e];exact List.Perm.append_right _ h1
theorem aKE (cf:Int→Int→Int) (na nb:Nat):(mgF cf na nb).length=na+nb:=by rw[(aEJ cf na nb).length_eq,mW]
section
variable {cf:Int→Int→Int}{R:Int→Int→Prop}{na nb:Nat} (htr:∀x y z,R x y→R y z→R x z)
 (hlt:∀i j:Nat,i<na→j<nb→cf ((na+j:Nat):Int) (i:Int)<0→R ((na+j:Nat):Int) (i:Int))
 (hge:∀i j:Nat,i<na→j<nb→¬cf ((na+j:Nat):Int) (i:Int)<0→R (i:Int) ((na+j:Nat):Int))
 (hA:∀i j:Nat,i<j→j<na→R (i:Int) (j:Int)) (hB:∀i j:Nat,i<j→j<nb→R ((na+i:Nat):Int) ((na+j:Nat):Int))
include htr hlt hge hA hB
theorem aGF:∀i,i≤na→(mgI cf na nb i).Pairwise R∧(∀x,x∈mgI cf na nb i→∀j:Nat,i≤j→j<na→R x (j:Int))∧(∀x,x∈mgI cf na nb i→∀j:Nat,mgK cf na nb i≤j→j<nb→R x ((na+j:Nat):Int))
 |0,_=>⟨List.Pairwise.nil,fun x hx=>(by cases hx),fun x hx=>(by cases hx)⟩
 | i+1,hi=>by
  obtain⟨h1,h2,h3⟩:=aGF i (by omega);have hk:=aDU cf na nb i;have hk2:=vF cf na nb (i+1);have hk1:=vF cf na nb i;have hsl:∀j,mgK cf na nb i≤j→j<mgK cf na nb (i+1)→cf ((na+j:Nat):Int) (i:Int)<0:=fun j a b=>aIp cf na i _ _ j a (by rw[mgK] at b;exact b)
  have hst:mgK cf na nb (i+1)<nb→¬cf ((na+mgK cf na nb (i+1):Nat):Int) (i:Int)<0:=fun h=>by
   have:=aIq cf na i (nb-mgK cf na nb i) (mgK cf na nb i);rw[mgK] at h⊢;exact this (by omega)
  rw[mgI];generalize hK:mgK cf na nb i=k at *
  generalize hK2:mgK cf na nb (i+1)=k' at *
  have hr:∀x,x∈rng (na+k) (k'-k)→∃j,k≤j∧j<k'∧x=((na+j:Nat):Int):=fun x hx=>by
   obtain⟨j,a,b,rfl⟩:=aGx hx;exact⟨j-na,by omega,by omega,by congr 1;omega⟩
  have hri:∀x,x∈rng (na+k) (k'-k)→R x (i:Int):=fun x hx=>by
   obtain⟨j,a,b,rfl⟩:=hr x hx;exact hlt i j (by omega) (by omega) (hsl j a b)
  have hii:∀j:Nat,i<j→j<na→R (i:Int) (j:Int):=fun j a b=>hA i j a b
  have hib:∀j:Nat,k'≤j→j<nb→R (i:Int) ((na+j:Nat):Int):=fun j a b=>by
   have h0:=hge i k' (by omega) (by omega) (hst (by omega));by_cases hj:j=k'
   ·subst hj;exact h0
   ·exact htr _ _ _ h0 (hB k' j (by omega) b)
  have hoi:∀x,x∈mgI cf na nb i→R x (i:Int):=fun x hx=>h2 x hx i (Nat.le_refl _) (by omega)
  have hor:∀x,x∈mgI cf na nb i→∀y,y∈rng (na+k) (k'-k)→R x y:=fun x hx y hy=>by
   obtain⟨j,a,b,rfl⟩:=hr y hy;exact h3 x hx j a (by omega)
  refine⟨?_,?_,?_⟩
  ·rw[List.pairwise_append,List.pairwise_append];refine⟨⟨h1,?_,hor⟩,List.pairwise_singleton _ _,fun x hx y hy=>?_⟩
   ·unfold rng;rw[List.pairwise_map];refine List.Pairwise.imp_of_mem (R:=fun a b=>a<b) ?_ List.pairwise_lt_range';intro a b ha hb hab;obtain⟨a1,a2⟩:=List.mem_range'_1.1 ha;obtain⟨b1,b2⟩:=List.mem_range'_1.1 hb;have:=hB (a-na) (b-na) (by omega) (by omega)
    rwa [show na+(a-na)=a by omega,show na+(b-na)=b by omega] at this
   ·rw[List.mem_singleton] at hy;subst hy;rcases List.mem_append.1 hx with hx|hx
    ·exact hoi x hx
    ·exact hri x hx
  ·intro x hx j a b;rcases List.mem_append.1 hx with hx|hx
   ·rcases List.mem_append.1 hx with hx|hx
    ·exact h2 x hx j (by omega) b
    ·exact htr _ _ _ (hri x hx) (hii j (by omega) b)
   ·rw[List.mem_singleton] at hx;subst hx;exact hii j (by omega) b
  ·intro x hx j a b;rcases List.mem_append.1 hx with hx|hx
   ·rcases List.mem_append.1 hx with hx|hx
    ·exact h3 x hx j (by omega) b
    ·obtain⟨j',a',b',rfl⟩:=hr x hx;exact hB j' j (by omega) b
   ·rw[List.mem_singleton] at hx;subst hx;exact hib j a b
theorem aKD:(mgF cf na nb).Pairwise R:=by
 obtain⟨h1,h2,h3⟩:=aGF htr hlt hge hA hB na (Nat.le_refl _);unfold mgF;rw[List.pairwise_append];refine⟨h1,?_,fun x hx y hy=>?_⟩
 ·unfold rng;rw[List.pairwise_map];refine List.Pairwise.imp_of_mem (R:=fun a b=>a<b) ?_ List.pairwise_lt_range';intro a b ha hb hab;obtain⟨a1,a2⟩:=List.mem_range'_1.1 ha;obtain⟨b1,b2⟩:=List.mem_range'_1.1 hb;have hk:=vF cf na nb na;have:=hB (a-na) (b-na) (by omega) (by omega)
  rwa [show na+(a-na)=a by omega,show na+(b-na)=b by omega] at this
 ·obtain⟨j,a,b,rfl⟩:=aGx hy;have hk:=vF cf na nb na;have:=h3 x hx (j-na) (by omega) (by omega)
  rwa [show na+(j-na)=j by omega] at this
end
theorem aII {R:Nat→Nat→Prop} (htr:∀x y z,R x y→R y z→R x z) {n:Nat} (h:∀i,i+1<n→R i (i+1)):∀i j,i<j→j<n→R i j:=by
 intro i j hij hj;obtain⟨d,rfl⟩:∃d,j=i+1+d:=⟨j-(i+1),by omega⟩
 induction d with
 |zero=>exact h i hj
 |succ d ih=>exact htr _ _ _ (ih (by omega) (by omega)) (h (i+1+d) hj)
theorem aG8 {a b:List (List Int)}{i:Nat} (h:i<a.length):(a++b).getD i []=a.getD i []:=by simp[List.getD,List.getElem?_append_left h]
theorem aG7 {a b:List (List Int)} (j:Nat):(a++b).getD (a.length+j) []=b.getD j []:=by
 simp only[List.getD];rw[List.getElem?_append_right (by omega),Nat.add_sub_cancel_left]
theorem aFN {fr to:Int}{a b:List (List Int)} (ho:∀c,c∈a++b→okF fr to c) (hl:a.length+b.length≤40) (ha:iW fr to a=true) (hb:iW fr to b=true) :
  mgF (cfO fr to (a++b)) a.length b.length=oW fr to (a++b):=by
 have hlen:(a++b).length=a.length+b.length:=by simp
 obtain⟨h1,h2⟩:=aB4 ho (by omega);rw[hlen] at h1;have hin:∀i:Nat,i<a.length+b.length→inO (a++b).length (i:Int):=fun i hi=>⟨by omega,by omega⟩
 have hst:∀i j:Nat,i<j→j<a.length+b.length→¬cfO fr to (a++b) (j:Int) (i:Int)<0→wS fr to (a++b) (i:Int) (j:Int):=by
  intro i j hij hj hc;have e:=aBK ho (hin i (by omega)) (hin j hj);refine⟨⟨hin i (by omega),hin j hj⟩,?_⟩;by_cases h0:cfO fr to (a++b) (i:Int) (j:Int)=0
  ·exact .inr ⟨h0,by omega⟩
  ·exact .inl (by omega)
 have hA:∀i j:Nat,i<j→j<a.length→wS fr to (a++b) (i:Int) (j:Int):=by
  refine aII (R:=fun i j=>wS fr to (a++b) (i:Int) (j:Int)) (fun x y z=>lS ho _ _ _) fun i hi=>?_;refine hst i (i+1) (by omega) (by omega) ?_;have:=aJQ ha i hi;unfold cfO;rw[Int.toNat_natCast,Int.toNat_natCast,aG8 hi,aG8 (by omega)];exact this
 have hB:∀i j:Nat,i<j→j<b.length→wS fr to (a++b) ((a.length+i:Nat):Int) ((a.length+j:Nat):Int):=by
  refine aII (R:=fun i j=>wS fr to (a++b) ((a.length+i:Nat):Int) ((a.length+j:Nat):Int)) (fun x y z=>lS ho _ _ _) fun i hi=>?_;refine hst _ _ (by omega) (by omega) ?_;have:=aJQ hb i hi;unfold cfO;rw[Int.toNat_natCast,Int.toNat_natCast,aG7,aG7];exact this
 refine aDH (lS ho) (aAQ ho) ((aEJ _ _ _).trans h1.symm) (aKD (lS ho) (fun i j hi hj hc=>?_) (fun i j hi hj hc=>?_) hA hB) h2
 ·exact⟨⟨hin _ (by omega),hin _ (by omega)⟩,.inl hc⟩
 ·exact hst i _ (by omega) (by omega) hc
end
section
variable [Vs.Envs]
attribute [local irreducible] Vs.Fn cZ aW dB dC l03 chB rk cd3 chI stp aZ
def bT (fr to:Int) (l:List (List Int)):Nat→List Int
 |0=>[]
 |i+1=>bT fr to l i++(if i=0∨cmF fr to (l.getD (i-1) []) (l.getD i [])≠0 then[(i:Int)] else[])
theorem rW (fr to:Int) (l:List (List Int)) (i:Nat):bT fr to l (i+1)=bT fr to l i++(if i=0∨cmF fr to (l.getD (i-1) []) (l.getD i [])≠0 then[(i:Int)] else[]):=rfl
theorem vM (fr to:Int) (l:List (List Int)):bT fr to l 0=[]:=rfl
theorem jX (fr to:Int) (l:List (List Int)):∀i,(bT fr to l i).length≤i
 |0=>Nat.le_refl _
 | i+1=>by
  have:=jX fr to l i;rw[rW,List.length_append];split<;>simp<;>omega
attribute [local irreducible] bT
attribute [local go_sem] aH List.replicate_succ List.replicate_zero List.flatten_cons List.flatten_nil List.cons_append List.nil_append List.set_cons_zero List.set_cons_succ List.length_cons List.length_nil List.length_set in
theorem aE7 (l:List (List Int)) (fr to:Int) (ho:∀c,c∈l→okF fr to c) (hl:l.length≤1048576):Fz F.oG [.sl 1 (E cC l),.agg (cFd fr to)] (.sl 1 (E cI (bT fr to l l.length))):=by
 refine fn0 Cd.i_groupsOf_k fun X=>?_
 repeat' first|simp -dsimp only[go_sem,cC,cFd]|apply Br.mk<;>intro h<;>try simp -dsimp only[h]|refine aC ?_|fail
 refine aN.at dM (X:={zz:Nat×(Unit) // zz.1≤l.length∧True}) (fun zz=>[(5,.loc (.t 5 0) 0 (bT fr to l zz.1.1).length),(11,.v (.int .i64 zz.1.1))]) (fun zz=>[(.t 5 0,.arr 1 (E cI (bT fr to l zz.1.1)) false)]) (fun zz=>l.length-zz.1.1) ⟨(0,()),by omega,trivial⟩ ?_ ?_
 ·simp[Vs.LeL,Vs.look,Vs.aB,Vs.aP,Vs.aK,Vs.hset,Vs.aL,Vs.E,vM]
 ·rintro⟨⟨i,_⟩,hi,hg⟩;dsimp only at hi hg;simp -dsimp only[go_sem,cC,cFd];refine Br.mk (fun hc=>?_) fun hc=>?_
  ·have hlt:i<l.length:=Dq;have hw:=aG hlt hl;have hgl:=jX fr to l i;have gi:(E cC l).getD i []=[.sl 1 (E cI (l.getD i []))]:=by rw[aX hlt];simp[cC,List.getD,hlt]
   have hap:E cI (bT fr to l i)++[[.v (.int .i64 (i:Int))]]=E cI (bT fr to l i++[(i:Int)]):=by rw[aY];rfl
   have hal:(E cI (bT fr to l i)).length=(bT fr to l i).length:=aH ..
   have hgs:=rW fr to l i;by_cases h0:i=0
   ·subst h0;rw[if_pos (.inl rfl)] at hgs;have e0:(((0:Nat):Int)==0)=true:=rfl
    repeat' first|simp -dsimp only[go_sem,e0,hw,hap,hal,gi,cC,cFd]|apply Br.mk<;>intro h<;>try simp -dsimp only[h]|refine aC ?_|fail
    all_goals first|omega|(exact nx (0+1,()) trivial (h2:=by simp[Vs.LeL,Vs.look,Vs.aB,Vs.aP,Vs.aK,Vs.hset,Vs.aL,hgs]))
   ·have e0:((i:Int)==0)=false:=by simp[h0]
    have w0:IntKind.i64.wrap ((i:Int)-1)=((i-1:Nat):Int):=by rw[aR (by omega) (by omega)];omega
    have hl1:i-1<l.length:=by omega
    have gj:(E cC l).getD (i-1) []=[.sl 1 (E cI (l.getD (i-1) []))]:=by rw[aX hl1];simp[cC,List.getD,hl1]
    have hmi:l.getD i []∈l:=by rw[show l.getD i []=l[i] by simp[List.getD,hlt]];exact List.getElem_mem hlt
    have hmj:l.getD (i-1) []∈l:=by rw[show l.getD (i-1) []=l[i-1] by simp[List.getD,hl1]];exact List.getElem_mem hl1
    have CF:=lI (l.getD (i-1) []) (l.getD i []) fr to (ho _ hmj) (ho _ hmi);by_cases hc0:cmF fr to (l.getD (i-1) []) (l.getD i [])=0
    ·have e1:(cmF fr to (l.getD (i-1) []) (l.getD i []) != 0)=false:=by rw[hc0];rfl
     rw[if_neg (by rintro(h|h)<;>contradiction),List.append_nil] at hgs
     repeat' first|simp -dsimp only[go_sem,e0,e1,w0,hw,hap,hal,gi,gj,cC,cFd]|apply Br.mk<;>intro h<;>try simp -dsimp only[h]|refine aA.c (by first|exact CF) ?_|refine aC ?_|fail
     all_goals first|omega|(exact nx (i+1,()) trivial (h2:=by simp[Vs.LeL,Vs.look,Vs.aB,Vs.aP,Vs.aK,Vs.hset,Vs.aL,hgs]))
    ·have e1:(cmF fr to (l.getD (i-1) []) (l.getD i []) != 0)=true:=bne_iff_ne.2 hc0;rw[if_pos (.inr hc0)] at hgs
     repeat' first|simp -dsimp only[go_sem,e0,e1,w0,hw,hap,hal,gi,gj,cC,cFd]|apply Br.mk<;>intro h<;>try simp -dsimp only[h]|refine aA.c (by first|exact CF) ?_|refine aC ?_|fail
     all_goals first|omega|(exact nx (i+1,()) trivial (h2:=by simp[Vs.LeL,Vs.look,Vs.aB,Vs.aP,Vs.aK,Vs.hset,Vs.aL,hgs]))
  ·have hge:i=l.length:=by
    have:¬i<l.length:=Dq;omega
   subst hge;simp -dsimp only[go_sem,cC,cFd];have htk:(E cI (bT fr to l l.length)).take (bT fr to l l.length).length=E cI (bT fr to l l.length):=List.take_of_length_le (by rw[aH];exact Nat.le_refl _)
   first|exact⟨⟨_,_,rfl,rfl⟩,fun h=>h rfl⟩|(rw[htk];exact⟨⟨_,_,rfl,rfl⟩,fun h=>h rfl⟩)|(simp[htk];done)
end
section
variable [Vs.Envs]
attribute [local irreducible] Vs.Fn bT cZ aW dB dC l03 chB rk cd3 chI stp aZ
theorem uM {fr to:Int}{l:List (List Int)}:∀n x,x∈bT fr to l n→0≤x∧x<(n:Int)
 |0,x,h=>by rw[vM] at h;cases h
 | n+1,x,h=>by
  rw[rW] at h;rcases List.mem_append.1 h with h|h
  ·have:=uM n x h;omega
  ·split at h
   ·simp at h;subst h;omega
   ·cases h
theorem aAv {fr to:Int}{l:List (List Int)}:∀n,(bT fr to l n).Pairwise (· < ·)
 |0=>by rw[vM];exact List.Pairwise.nil
 | n+1=>by
  rw[rW,List.pairwise_append];refine⟨aAv n,by split<;>simp,fun a ha b hb=>?_⟩;have:=uM n a ha;split at hb
  ·simp at hb;subst hb;exact this.2
  ·cases hb
def fV (l:List (List Int)) (s:List Int) (i:Nat):List (List Int):=(l.take (if i+1<s.length then(s.getD (i+1) 0).toNat else l.length)).drop (s.getD i 0).toNat
def aCk (fr to:Int) (l:List (List Int)):List (List (List Int)):=(List.range (bT fr to l l.length).length).map (fV l (bT fr to l l.length))
attribute [local irreducible] fV
attribute [local go_sem] aH List.replicate_succ List.replicate_zero List.flatten_cons List.flatten_nil List.cons_append List.nil_append List.set_cons_zero List.set_cons_succ List.length_cons List.length_nil List.length_set in
theorem groups (l:List (List Int)) (fr to:Int) (ho:∀c,c∈l→okF fr to c) (hl:l.length≤1048576):Fz F.xB [.sl 1 (E cC l),.agg (cFd fr to)] (.sl 1 (E cD (aCk fr to l))):=by
 have GO:=aE7 l fr to ho hl;have SZ:=aLr l;have hgl:=jX fr to l l.length;have hin:=uM (fr:=fr) (to:=to) (l:=l) l.length;have hup:=aAv (fr:=fr) (to:=to) (l:=l) l.length;rw[show aCk fr to l=(List.range (bT fr to l l.length).length).map (fV l (bT fr to l l.length)) from rfl];generalize bT fr to l l.length=s at *
 refine fn0 Cd.i_groups_k fun X=>?_
 repeat' first|simp -dsimp only[go_sem,cC,cFd,cD]|apply Br.mk<;>intro h<;>try simp -dsimp only[h]|refine aA.c (by first|exact GO) ?_|refine aC ?_|fail
 refine aN.at dM (X:={zz:Nat×(Unit) // zz.1≤s.length∧True}) (fun zz=>[(5,.loc (.t 5 0) 0 zz.1.1),(16,.v (.int .i64 zz.1.1))]) (fun zz=>[(.t 5 0,.arr 1 (E cD ((List.range zz.1.1).map (fV l s))) false)]) (fun zz=>s.length-zz.1.1) ⟨(0,()),by omega,trivial⟩ ?_ ?_
 ·simp[Vs.LeL,Vs.look,Vs.aB,Vs.aP,Vs.aK,Vs.hset,Vs.aL,Vs.E]
 ·rintro⟨⟨i,_⟩,hi,hg⟩;dsimp only at hi hg;simp -dsimp only[go_sem,cC,cFd,cD];refine Br.mk (fun hc=>?_) fun hc=>?_
  ·have hlt:i<s.length:=Dq;have hw:=aG hlt (by omega);have hs0:=hin _ (List.getElem_mem hlt);have e:s.getD i 0=s[i]:=by simp[List.getD,hlt]
   have hap:E cD ((List.range i).map (fV l s))++[[.sl 1 (E cC (fV l s i))]]=E cD ((List.range (i+1)).map (fV l s)):=by
    rw[List.range_succ,List.map_append,aY];rfl
   have hal:(E cD ((List.range i).map (fV l s))).length=i:=by rw[aH];simp
   have hiw:IntKind.i64.wrap ((i:Int)+1)=((i+1:Nat):Int):=hw;by_cases h1:i+1<s.length
   ·have e1:decide (((i+1:Nat):Int)<(s.length:Int))=true:=by simp;omega
    have hs1:=hin _ (List.getElem_mem h1);have hlt2:s[i]<s[i+1]:=List.pairwise_iff_getElem.1 hup i (i+1) hlt h1 (by omega)
    have hga:((E cC l).take s[i+1].toNat).drop s[i].toNat=E cC (fV l s i):=by
     unfold fV;rw[if_pos h1,e,show s.getD (i+1) 0=s[i+1] by simp[List.getD,h1]];simp[E,List.map_take,List.map_drop]
    simp -dsimp only[go_sem,dK hlt,dK h1,hw,e1,hal,cC,cFd,cD]
    repeat' first|simp -dsimp only[go_sem,dK hlt,dK h1,hw,e1,hap,hal,hga,cC,cFd,cD]|apply Br.mk<;>intro h<;>try simp -dsimp only[h]|refine aA.c (by first|exact SZ) ?_|refine aC ?_|fail
    all_goals first|omega|(exact nx (i+1,()) trivial (h2:=by simp[Vs.LeL,Vs.look,Vs.aB,Vs.aP,Vs.aK,Vs.hset,Vs.aL,List.range_succ]))
   ·have e1:decide (((i+1:Nat):Int)<(s.length:Int))=false:=by simp;omega
    have hga:(E cC l).drop s[i].toNat=E cC (fV l s i):=by
     unfold fV;rw[if_neg h1,e,List.take_of_length_le (Nat.le_refl _)];simp[E,List.map_drop]
    simp -dsimp only[go_sem,dK hlt,hw,e1,hal,cC,cFd,cD]
    repeat' first|simp -dsimp only[go_sem,dK hlt,hw,e1,hap,hal,hga,cC,cFd,cD]|apply Br.mk<;>intro h<;>try simp -dsimp only[h]|refine aA.c (by first|exact SZ) ?_|refine aC ?_|fail
    all_goals first|omega|(exact nx (i+1,()) trivial (h2:=by simp[Vs.LeL,Vs.look,Vs.aB,Vs.aP,Vs.aK,Vs.hset,Vs.aL,List.range_succ]))
  ·have hge:i=s.length:=by
    have:¬i<s.length:=Dq;omega
   subst hge;simp -dsimp only[go_sem,cC,cFd,cD];have htk:(E cD ((List.range s.length).map (fV l s))).take s.length=E cD ((List.range s.length).map (fV l s)):=List.take_of_length_le (by rw[aH];simp)
   first|exact⟨⟨_,_,rfl,rfl⟩,fun h=>h rfl⟩|(rw[htk];exact⟨⟨_,_,rfl,rfl⟩,fun h=>h rfl⟩)|(simp[htk];done)
end
section
variable [Vs.Envs]
attribute [local irreducible] Vs.Fn cZ aW dB dC l03 chB rk cd3 chI stp aZ
def jY (fr to:Int) (l:List (List Int)):Int:=l.foldl (fun a c=>IntKind.i64.wrap (a+(lU fr to c).1)) 0
def zL (fr to:Int) (l:List (List Int)):Bool:=l.all fun c=>(lU fr to c).2
theorem aHh {fr to:Int}{l:List (List Int)}{i:Nat} (h:i<l.length):jY fr to (l.take (i+1))=IntKind.i64.wrap (jY fr to (l.take i)+(lU fr to l[i]).1):=by
 unfold jY;rw[bL h,List.foldl_append];rfl
def aBS (fr to:Int) (l:List (List Int)):AV:=if zL fr to l then .sl 1 (E cI [jY fr to l]) else .v (.slice none 0 0)
attribute [local irreducible] jY lU
attribute [local go_sem] cFd aH List.replicate_succ List.replicate_zero List.flatten_cons List.flatten_nil List.cons_append List.nil_append List.set_cons_zero List.set_cons_succ List.length_cons List.length_nil List.length_set List.getD_cons_zero in
theorem aIa (l:List (List Int)) (fr to:Int) (ho:∀c,c∈l→okP fr to c) (hl:l.length≤1048576):Fz F.uE [.sl 2 [[.v (.int .i64 fr),.v (.int .i64 to)]],.sl 1 (E cC l)] (.tup [aBS fr to l,.v (.bool (zL fr to l))]):=by
 refine fn0 Cd.i_sumsOf_k fun X=>?_
 repeat' first|simp -dsimp only[go_sem,cC]|apply Br.mk<;>intro h<;>try simp -dsimp only[h]|refine aC ?_|fail
 refine aN.at dM (X:={zz:Nat×(Unit) // zz.1≤1∧(zz.1=1→zL fr to l=true)}) (fun zz=>[(6,.loc (.t 6 0) 0 zz.1.1),(17,.v (.int .i64 zz.1.1))]) (fun zz=>[(.t 6 0,.arr 1 (E cI ([jY fr to l].take zz.1.1)) false)]) (fun zz=>1-zz.1.1) ⟨(0,()),by omega,by intro h;cases h⟩ ?_ ?_
 ·simp[Vs.LeL,Vs.look,Vs.aB,Vs.aP,Vs.aK,Vs.hset,Vs.aL,Vs.E]
 ·rintro⟨⟨i,_⟩,hi,hg⟩;dsimp only at hi hg;simp -dsimp only[go_sem,cC];refine Br.mk (fun hc=>?_) fun hc=>?_
  ·have hlt:i<1:=Dq;have hw:=aG hlt (by omega);obtain rfl:i=0:=by omega
   repeat' first|simp -dsimp only[go_sem,cC]|apply Br.mk<;>intro h<;>try simp -dsimp only[h]|refine aC ?_|fail
   refine aN.at dM (X:={zz:Nat×(Unit) // zz.1≤l.length∧(l.take zz.1).all (fun c=>(lU fr to c).2)=true}) (fun zz=>[(9,.v (.int .i64 (jY fr to (l.take zz.1.1)))),(23,.v (.int .i64 zz.1.1))]) (fun zz=>[]) (fun zz=>l.length-zz.1.1) ⟨(0,()),by omega,by simp⟩ ?_ ?_
   ·simp[Vs.LeL,Vs.look,Vs.aB,Vs.aP,Vs.aK,Vs.hset,Vs.aL,jY]
   ·rintro⟨⟨i,_⟩,hi,hg⟩;dsimp only at hi hg;simp -dsimp only[go_sem,cC];refine Br.mk (fun hc=>?_) fun hc=>?_
    ·have hlt:i<l.length:=Dq;have hw:=aG hlt hl;have hm:(E cC l).getD i []=[.sl 1 (E cI l[i])]:=aX hlt;have NI:=aHv (ho _ (List.getElem_mem hlt));have hss:=aHh (fr:=fr) (to:=to) hlt;cases hb:(lU fr to l[i]).2
     ·rw[hb] at NI;have hna:zL fr to l=false:=gJ (p:=fun c=>(lU fr to c).2) hlt hb;have hv:aBS fr to l=.v (.slice none 0 0):=by simp[aBS,hna]
      repeat' first|simp -dsimp only[go_sem,hm,hw,cC]|apply Br.mk<;>intro h<;>try simp -dsimp only[h]|refine aA.c (by first|exact NI) ?_|refine aC ?_|fail
      all_goals first|omega|(rw[hv,hna];exact⟨_,_,rfl,rfl⟩)|(simp[hv,hna];done)
     ·rw[hb] at NI;simp -dsimp only[go_sem,hm,hw,cC]
      repeat' first|simp -dsimp only[go_sem,hm,hw,←hss,cC]|apply Br.mk<;>intro h<;>try simp -dsimp only[h]|refine aA.c (by first|exact NI) ?_|refine aC ?_|fail
      all_goals first|omega|(exact nx (i+1,()) (bE (p:=fun c=>(lU fr to c).2) hlt hg hb) (h2:=by simp[Vs.LeL,Vs.look,Vs.aB,Vs.aP,Vs.aK,Vs.hset,Vs.aL,hss]))
    ·have hge:i=l.length:=by
      have:¬i<l.length:=Dq;omega
     subst hge;simp -dsimp only[go_sem,cC];have hall:zL fr to l=true:=by simpa[zL] using hg
     have e01:IntKind.i64.wrap 1=1:=rfl;have hfull:l.take l.length=l:=List.take_of_length_le (Nat.le_refl _);refine⟨⟨by decide,by decide,?_⟩,fun h=>absurd rfl h⟩;exact⟨⟨(1,()),⟨by omega,fun _=>hall⟩⟩,by simp[Vs.LeL,Vs.look,Vs.aB,Vs.aP,Vs.aK,Vs.hset,Vs.aL,hfull,e01,Vs.E,cI],by simp only;omega⟩
  ·have hge:i=1:=by
    have:¬i<1:=Dq;omega
   subst hge;simp -dsimp only[go_sem,cC];have hall:=hg rfl;rw[hall,show aBS fr to l=.sl 1 (E cI [jY fr to l]) by simp[aBS,hall]];exact⟨⟨_,_,rfl,rfl⟩,fun h=>h rfl⟩
end
end Go.Proofs.YthbnjmgjhonfbaaGreat
