/- SortedBy: the program and the reference. -/
import Derived.Test.YtonkjfiffcfaoaaGreatUwSh
import Derived.Test.YtonkjfiffcfaoaaGreatVtR
import Derived.Test.YtonkjfiffcfaoaaGreatUwC
set_option linter.all false
set_option maxHeartbeats 8000000
namespace Go.Proofs.YtonkjfiffcfaoaaGreat
open Go.Vs
section
variable [Vs.Envs]
attribute [local irreducible] Vs.Fn cZ aW dA dB l03 chB rk cd3 chI stp aY flt rG zR aAG mat kG iT stF
attribute [local go_sem] List.replicate_succ List.replicate_zero List.flatten_cons List.flatten_nil List.cons_append List.nil_append List.set_cons_zero List.set_cons_succ List.length_cons List.length_nil List.length_set
theorem aGZ:∀{a b:List Int},a.length=b.length→cB a=true→cB b=true→(jA a b=0↔a=b)
 | [],[],_,_,_=>by simp[jA]
 | [],y::b,h,_,_=>by simp at h
 |x::a,[],h,_,_=>by simp at h
 | x::a,y::b,h,ha,hb=>by
  simp only[cB,List.all_cons,Bool.and_eq_true,decide_eq_true_eq] at ha hb;have ih:=aGZ (a:=a) (b:=b) (by simpa using h) (by simpa[cB] using ha.2) (by simpa[cB] using hb.2);rw[jA];by_cases h1:rk x<rk y
  ·rw[if_pos h1];refine⟨fun h=>by simp at h,fun h=>?_⟩;simp only[List.cons.injEq] at h;rw[h.1] at h1;omega
  ·rw[if_neg h1];by_cases h2:rk x>rk y
   ·rw[if_pos h2];refine⟨fun h=>by simp at h,fun h=>?_⟩;simp only[List.cons.injEq] at h;rw[h.1] at h2;omega
   ·rw[if_neg h2,ih];have hxy:x=y:=aIx ha.1 (by omega);simp[hxy]
theorem aJT {a b:List Int} (hl:a.length=b.length) (ha:cB a=true) (hb:cB b=true) (h:(txt a).data.toList=(txt b).data.toList):a=b:=by
 apply List.ext_getElem hl;intro i h1 h2;have e1:=aDx ha h1;have e2:=aDx hb h2;rw[h,e2] at e1;have r1:=aBZ a[i];have r2:=aBZ b[i];have g1:=uG ha h1;have g2:=uG hb h2;have:=aG0 (rk b[i]).toNat (by omega) (rk a[i]).toNat (by omega) e1;exact aIx g1 (by omega)
theorem aDw {a b:List Int} (hl:a.length=b.length) (ha:cB a=true) (hb:cB b=true):((txt a).toList==(txt b).toList)=(jA a b==0):=by
 rw[ByteArray.toList_eq,ByteArray.toList_eq];have h:=aGZ hl ha hb;by_cases e:a=b
 ·subst e;have:jA a a=0:=h.2 rfl;simp[this]
 ·have h1:¬jA a b=0:=fun h'=>e (h.1 h');have h2:¬(txt a).data.toList=(txt b).data.toList:=fun h'=>e (aJT hl ha hb h');have e1:((txt a).data.toList==(txt b).data.toList)=false:=beq_eq_false_iff_ne.2 h2;have e2:(jA a b==0)=false:=beq_eq_false_iff_ne.2 h1;rw[e1,e2]
theorem aLS (l:List Int) (hl:l.length≤1048576):Fz F.oP [.sl 1 (E cI l)] (.sl 1 (E cI l)):=by
 refine fn0 Cd.s_l00Own_k fun X=>?_;simp -dsimp only[go_sem]
 first
  |exact⟨by omega,rfl,⟨rfl,by omega,by omega⟩,_,_,rfl,rfl⟩
  |exact⟨by omega,rfl,⟨by omega,by omega⟩,_,_,rfl,rfl⟩
  |exact⟨⟨by omega,by omega⟩,⟨by omega,by omega⟩,_,_,rfl,rfl⟩
theorem vD (c:List Int) (hc:c.length≤1048576):Fz F.iO [.ro (cC c)] (.agg (cC c)):=by
 refine fn0 Cd.s_l02Own_k fun X=>?_
 repeat' first|simp -dsimp only[go_sem,cC,cFd]|apply Br.mk<;>intro h<;>try simp -dsimp only[h]|refine aA.c (by first|exact aLS c hc) ?_|refine aC ?_|fail
 all_goals(exact⟨_,_,rfl,rfl⟩)
theorem tX (fr to:Int) (l:List (List Int)):(bQ fr to l).length=l.length:=by simp[bQ]
attribute [local go_sem] aG cFd in
theorem aIW (o:List (List Int)) (x:List Int) (fr to:Int) (ho:∀c,c∈o→okF fr to c) (hh:bT fr to o=true) (hx:okF fr to x) (hxh:cB (fH fr to x)=true) (hl:o.length≤1048576) :
  Fz F.wG [.sl 1 (E cSt (bQ fr to o)),.v (.string (txt (fH fr to x)))] (.v (.bool (vW fr to o x))):=by
 have hkl:=tX fr to o;refine fn0 Cd.s_l09Has_k fun X=>?_;simp -dsimp only[go_sem,hkl];refine aN.at dM (X:={zz:Nat×(Unit) // zz.1≤o.length∧(o.take zz.1).all (fun c=>!(cmF fr to c x==0))=true}) (fun zz=>[(5,.v (.int .i64 zz.1.1))]) (fun zz=>[]) (fun zz=>o.length-zz.1.1) ⟨(0,()),by omega,by simp⟩ ?_ ?_
 ·exact le0
 ·rintro⟨⟨i,_⟩,hi,hg⟩;dsimp only at hi hg;simp -dsimp only[go_sem,hkl];refine Br.mk (fun hc=>?_) fun hc=>?_
  ·have hlt:i<o.length:=Dq;have hw:=aH hlt hl;have hk:=ho _ (List.getElem_mem hlt);have hc:=(List.all_eq_true.1 hh) _ (List.getElem_mem hlt);have hm:(E cSt (bQ fr to o)).getD i []=[.v (.string (txt (fH fr to o[i])))]:=by rw[aT (by omega)];simp[bQ,cSt]
   have he:=aDw ((kZ hk).trans (kZ hx).symm) hc hxh;cases hz:jA (fH fr to o[i]) (fH fr to x)==0
   ·have hp:(cmF fr to o[i] x==0)=false:=hz
    repeat' first|simp -dsimp only[go_sem,hw,hm,he,hz,hkl]|apply Br.mk<;>intro h<;>try simp -dsimp only[h]|refine aC ?_|fail
    all_goals first|omega|(exact nx (i+1,()) (bB (p:=fun c=>!(cmF fr to c x==0)) hlt hg (by simp[hp])))
   ·have hp:(cmF fr to o[i] x==0)=true:=hz;have hany:vW fr to o x=true:=List.any_eq_true.2 ⟨o[i],List.getElem_mem hlt,hp⟩
    repeat' first|simp -dsimp only[go_sem,hw,hm,he,hz,hkl]|apply Br.mk<;>intro h<;>try simp -dsimp only[h]|refine aC ?_|fail
    all_goals first|omega|(refine aS ?_;simp[hany];done)|(simp[hany];done)
  ·have hge:i=o.length:=by
    have:¬i<o.length:=Dq;omega
   subst hge;simp -dsimp only[go_sem,hkl]
   have hany:vW fr to o x=false:=by
    unfold vW;rw[List.any_eq_false];intro c hc;rw[List.take_length] at hg;have:=(List.all_eq_true.1 hg) c hc;simpa using this
   simp[hany]
theorem aCb {fr to:Int}{l o:List (List Int)}{e:Bool}{i:Nat} (h:i<l.length):mat fr to (l.take (i+1)) o e=mat fr to (l.take i) o e++(if vW fr to o l[i]==e then[l[i]] else[]):=by
 unfold mat;rw[xB h];cases vW fr to o l[i]==e<;>simp
theorem aGF (fr to:Int) (l o:List (List Int)) (e:Bool):(mat fr to l o e).length≤l.length:=by unfold mat;exact yJ ..
theorem aIQ (fr to:Int) (o:List (List Int)) (e:Bool):mat fr to [] o e=[]:=by unfold mat flt;rfl
theorem aGE {fr to:Int}{l o:List (List Int)}{e:Bool}{i:Nat} (h:i<l.length) (hh:vW fr to o l[i]=e):E cC (mat fr to (l.take i) o e)++[[.sl 1 (E cI l[i])]]=E cC (mat fr to (l.take (i+1)) o e):=by
 rw[aCb h,hh,aR];simp[E,cC]
theorem aEG {fr to:Int}{l o:List (List Int)}{e:Bool}{i:Nat} (h:i<l.length) (hh:vW fr to o l[i]=e):(mat fr to (l.take (i+1)) o e).length=(mat fr to (l.take i) o e).length+1:=by
 rw[aCb h,hh];simp
theorem aEF {fr to:Int}{l o:List (List Int)}{e:Bool}{i:Nat} (h:i<l.length) (hh:vW fr to o l[i] = !e):mat fr to (l.take (i+1)) o e=mat fr to (l.take i) o e:=by
 rw[aCb h,hh];cases e<;>simp
attribute [local go_sem] aG cFd in
theorem aEQ (l o:List (List Int)) (fr to:Int) (hl:bE l) (hol:o.length≤1048576) (oa:∀c,c∈l→okF fr to c) (ob:∀c,c∈o→okF fr to c) (ca:bT fr to l=true) (cb:bT fr to o=true) :
  Fz F.nT [.sl 1 (E cC l),.sl 1 (E cSt (bQ fr to l)),.sl 1 (E cSt (bQ fr to o))] (.tup [.sl 1 (E cC (mat fr to l o true)),.sl 1 (E cC (mat fr to l o false))]):=by
 have hkl:=tX fr to l;have hkm:=tX fr to o;refine fn0 Cd.s_l09Match_k fun X=>?_;simp -dsimp only[go_sem,hkl,hkm];refine⟨⟨by omega,by omega⟩,⟨by omega,by omega⟩,?_⟩;refine aN.at dM (X:={zz:Nat×(Unit) // zz.1≤l.length∧True}) (fun zz=>[(8,.loc (.t 8 0) 0 (mat fr to (l.take zz.1.1) o true).length),(9,.loc (.t 9 0) 0 (mat fr to (l.take zz.1.1) o false).length),(10,.v (.int .i64 zz.1.1))]) (fun zz=>[(.t 8 0,.arr 1 (E cC (mat fr to (l.take zz.1.1) o true)) false),(.t 9 0,.arr 1 (E cC (mat fr to (l.take zz.1.1) o false)) false)]) (fun zz=>l.length-zz.1.1) ⟨(0,()),by omega,trivial⟩ ?_ ?_
 ·simp[Vs.LeL,Vs.look,Vs.aB,Vs.aP,Vs.aK,Vs.hset,Vs.aL,aIQ,Vs.E]
 ·rintro⟨⟨i,_⟩,hi,hg⟩;dsimp only at hi hg;simp -dsimp only[go_sem,hkl];refine Br.mk (fun hc=>?_) fun hc=>?_
  ·have hlt:i<l.length:=Dq;have hw:=aH hlt hl.1;have hk:=oa _ (List.getElem_mem hlt);have hc:=(List.all_eq_true.1 ca) _ (List.getElem_mem hlt);have hs:=hl.2 _ (List.getElem_mem hlt);have hm:(E cSt (bQ fr to l)).getD i []=[.v (.string (txt (fH fr to l[i])))]:=by rw[aT (by omega)];simp[bQ,cSt]
   have hm2:(E cC l).getD i []=[.sl 1 (E cI l[i])]:=aT hlt;have hb1:=aGF fr to (l.take i) o true;have hb2:=aGF fr to (l.take i) o false;have ht:(l.take i).length=i:=by simp;omega
   have hl1:=hl.1;cases hz:vW fr to o l[i]
   ·have g1:=aGE (e:=false) hlt hz;have g2:=aEG (e:=false) hlt hz;have g3:=aEF (e:=true) hlt hz
    repeat' first|simp -dsimp only[go_sem,hw,hm,hm2,hz,g1,hkl,cC]|apply Br.mk<;>intro h<;>try simp -dsimp only[h]|refine aA.c (by first|exact aIW o l[i] fr to ob cb hk hc hol|exact vD l[i] hs) ?_|refine aC ?_|fail
    all_goals first|omega|(exact nx (i+1,()) trivial (h2:=by simp[Vs.LeL,Vs.look,Vs.aB,Vs.aP,Vs.aK,Vs.hset,Vs.aL,g2,g3]))
   ·have g1:=aGE (e:=true) hlt hz;have g2:=aEG (e:=true) hlt hz;have g3:=aEF (e:=false) hlt hz
    repeat' first|simp -dsimp only[go_sem,hw,hm,hm2,hz,g1,hkl,cC]|apply Br.mk<;>intro h<;>try simp -dsimp only[h]|refine aA.c (by first|exact aIW o l[i] fr to ob cb hk hc hol|exact vD l[i] hs) ?_|refine aC ?_|fail
    all_goals first|omega|(exact nx (i+1,()) trivial (h2:=by simp[Vs.LeL,Vs.look,Vs.aB,Vs.aP,Vs.aK,Vs.hset,Vs.aL,g2,g3]))
  ·have hge:i=l.length:=by
    have:¬i<l.length:=Dq;omega
   subst hge;simp -dsimp only[go_sem,hkl];rw[List.take_length];have k1:(E cC (mat fr to l o true)).take (mat fr to l o true).length=E cC (mat fr to l o true):=aBb _;have k2:(E cC (mat fr to l o false)).take (mat fr to l o false).length=E cC (mat fr to l o false):=aBb _;exact⟨⟨_,_,rfl,rfl⟩,fun h=>h rfl⟩
def twV (fr to:Int) (a b d:List (List Int)):AV:=if kG fr to [a,b]=0 then .sl 1 (E cSt (bQ fr to d)) else .v (.slice none 0 0)
theorem aF1 (fr to:Int) (a b:List (List Int)):kG fr to [a,b]=if aX a&&aX b then(if dU fr to (bD a)&&dU fr to (bD b) then(if bT fr to a&&bT fr to b then 0 else 8) else 2) else 1:=by
 unfold kG;simp only[List.all_cons,List.all_nil,Bool.and_true]
theorem aDT (a b:List (List Int)) (fr to:Int) (ha:bE a) (hb:bE b):Fz F.qQ [.sl 1 (E cC a),.sl 1 (E cC b),.agg (cFd fr to)] (.tup [twV fr to a b a,twV fr to a b b,.v (.int .i64 (kG fr to [a,b]))]):=by
 have hcc:=aF1 fr to a b;cases da:aX a
 ·refine fn0 Cd.s_l09Two_k fun X=>?_
  repeat' first|simp -dsimp only[go_sem,cFd,da]|apply Br.mk<;>intro h<;>try simp -dsimp only[h]|refine aA.c (by first|exact dH a ha.2 ha.1|exact dH b hb.2 hb.1) ?_|refine aC ?_|fail
  all_goals simp_all [twV]
 cases db:aX b
 ·refine fn0 Cd.s_l09Two_k fun X=>?_
  repeat' first|simp -dsimp only[go_sem,cFd,da,db]|apply Br.mk<;>intro h<;>try simp -dsimp only[h]|refine aA.c (by first|exact dH a ha.2 ha.1|exact dH b hb.2 hb.1) ?_|refine aC ?_|fail
  all_goals simp_all [twV]
 cases fa:dU fr to (bD a)
 ·refine fn0 Cd.s_l09Two_k fun X=>?_
  repeat' first|simp -dsimp only[go_sem,cFd,da,db,fa]|apply Br.mk<;>intro h<;>try simp -dsimp only[h]|refine aA.c (by first|exact dH a ha.2 ha.1|exact dH b hb.2 hb.1|exact dL a|exact dL b|exact dQ fr to (bD a)|exact dQ fr to (bD b)) ?_|refine aC ?_|fail
  all_goals simp_all [twV]
 cases fb:dU fr to (bD b)
 ·refine fn0 Cd.s_l09Two_k fun X=>?_
  repeat' first|simp -dsimp only[go_sem,cFd,da,db,fa,fb]|apply Br.mk<;>intro h<;>try simp -dsimp only[h]|refine aA.c (by first|exact dH a ha.2 ha.1|exact dH b hb.2 hb.1|exact dL a|exact dL b|exact dQ fr to (bD a)|exact dQ fr to (bD b)) ?_|refine aC ?_|fail
  all_goals simp_all [twV]
 have ka:bH fr to a=if bT fr to a then 0 else 8:=by unfold bH;rw[da,fa];rfl
 have kb:bH fr to b=if bT fr to b then 0 else 8:=by unfold bH;rw[db,fb];rfl
 cases ca:bT fr to a<;>cases cb:bT fr to b
 ·have ka2:bH fr to a=_:=ka;have kb2:bH fr to b=_:=kb;rw[ca] at ka2;rw[cb] at kb2;simp only[if_true,if_false,Bool.false_eq_true] at ka2 kb2;have KA:=j4 a fr to ha.2 ha.1;have KB:=j4 b fr to hb.2 hb.1;simp only[gV,ka2,kb2,if_true,if_false,Int.reduceEq] at KA KB;refine fn0 Cd.s_l09Two_k fun X=>?_;simp -dsimp only[go_sem,cFd,da,db,fa,fb]
  repeat' first|simp -dsimp only[go_sem,cFd,da,db,fa,fb,ka2,kb2]|apply Br.mk<;>intro h<;>try simp -dsimp only[h]|refine aA.c (by first|exact dH a ha.2 ha.1|exact dH b hb.2 hb.1|exact dL a|exact dL b|exact dQ fr to (bD a)|exact dQ fr to (bD b)|exact KA|exact KB) ?_|refine aC ?_|fail
  all_goals simp_all [twV,gV]
 ·have ka2:bH fr to a=_:=ka;have kb2:bH fr to b=_:=kb;rw[ca] at ka2;rw[cb] at kb2;simp only[if_true,if_false,Bool.false_eq_true] at ka2 kb2;have KA:=j4 a fr to ha.2 ha.1;have KB:=j4 b fr to hb.2 hb.1;simp only[gV,ka2,kb2,if_true,if_false,Int.reduceEq] at KA KB;refine fn0 Cd.s_l09Two_k fun X=>?_;simp -dsimp only[go_sem,cFd,da,db,fa,fb]
  repeat' first|simp -dsimp only[go_sem,cFd,da,db,fa,fb,ka2,kb2]|apply Br.mk<;>intro h<;>try simp -dsimp only[h]|refine aA.c (by first|exact dH a ha.2 ha.1|exact dH b hb.2 hb.1|exact dL a|exact dL b|exact dQ fr to (bD a)|exact dQ fr to (bD b)|exact KA|exact KB) ?_|refine aC ?_|fail
  all_goals simp_all [twV,gV]
 ·have ka2:bH fr to a=_:=ka;have kb2:bH fr to b=_:=kb;rw[ca] at ka2;rw[cb] at kb2;simp only[if_true,if_false,Bool.false_eq_true] at ka2 kb2;have KA:=j4 a fr to ha.2 ha.1;have KB:=j4 b fr to hb.2 hb.1;simp only[gV,ka2,kb2,if_true,if_false,Int.reduceEq] at KA KB;refine fn0 Cd.s_l09Two_k fun X=>?_;simp -dsimp only[go_sem,cFd,da,db,fa,fb]
  repeat' first|simp -dsimp only[go_sem,cFd,da,db,fa,fb,ka2,kb2]|apply Br.mk<;>intro h<;>try simp -dsimp only[h]|refine aA.c (by first|exact dH a ha.2 ha.1|exact dH b hb.2 hb.1|exact dL a|exact dL b|exact dQ fr to (bD a)|exact dQ fr to (bD b)|exact KA|exact KB) ?_|refine aC ?_|fail
  all_goals simp_all [twV,gV]
 ·have ka2:bH fr to a=_:=ka;have kb2:bH fr to b=_:=kb;rw[ca] at ka2;rw[cb] at kb2;simp only[if_true,if_false,Bool.false_eq_true] at ka2 kb2;have KA:=j4 a fr to ha.2 ha.1;have KB:=j4 b fr to hb.2 hb.1;simp only[gV,ka2,kb2,if_true,if_false,Int.reduceEq] at KA KB;refine fn0 Cd.s_l09Two_k fun X=>?_;simp -dsimp only[go_sem,cFd,da,db,fa,fb]
  repeat' first|simp -dsimp only[go_sem,cFd,da,db,fa,fb,ka2,kb2]|apply Br.mk<;>intro h<;>try simp -dsimp only[h]|refine aA.c (by first|exact dH a ha.2 ha.1|exact dH b hb.2 hb.1|exact dL a|exact dL b|exact dQ fr to (bD a)|exact dQ fr to (bD b)|exact KA|exact KB) ?_|refine aC ?_|fail
  all_goals simp_all [twV,gV]
theorem vO (a b:List (List Int)) (fr to:Int) (ha:bE a) (hb:bE b):Fz F.mO [.sl 1 (E cC a),.sl 1 (E cC b),.agg (cFd fr to)] (.tup [mtV fr to a b,.v (.int .i64 (mtC fr to a b))]):=by
 by_cases hc:kG fr to [a,b]=0
 rotate_left
 ·have e1:(kG fr to [a,b] != 0)=true:=by simp[hc]
  refine fn0 Cd.s_MatchDecks_k fun X=>?_
  repeat' first|simp -dsimp only[go_sem,cFd,e1]|apply Br.mk<;>intro h<;>try simp -dsimp only[h]|refine aA.c (by first|exact aDT a b fr to ha hb) ?_|refine aC ?_|fail
  all_goals simp[mtV,mtC,hc]
 obtain⟨⟨da,db⟩,⟨fa,fb⟩,ca,cb⟩:=aBN hc;have oa:=fA da fa;have ob:=fA db fb;have va:twV fr to a b a=.sl 1 (E cSt (bQ fr to a)):=by simp[twV,hc]
 have vb:twV fr to a b b=.sl 1 (E cSt (bQ fr to b)):=by simp[twV,hc]
 have sa:=dJ fr to a;have sb:=dJ fr to b
 have CC:Fz F.qQ [.sl 1 (E cC a),.sl 1 (E cC b),.agg (cFd fr to)] (.tup [.sl 1 (E cSt (bQ fr to a)),.sl 1 (E cSt (bQ fr to b)),.v (.int .i64 0)]):=by
  have h:=aDT a b fr to ha hb;rw[va,vb,hc] at h;exact h
 cases hs:iT fr to a&&iT fr to b
 ·refine fn0 Cd.s_MatchDecks_k fun X=>?_
  repeat' first|simp -dsimp only[go_sem,cFd,sa,sb]|apply Br.mk<;>intro h<;>try simp -dsimp only[h]|refine aA.c (by first|exact CC|exact bY a fr to oa ca ha.1|exact bY b fr to ob cb hb.1) ?_|refine aC ?_|fail
  all_goals first|(simp_all [mtV,mtC];done)|(refine aS ?_;simp_all [mtV,mtC];done)
 have h1:iT fr to a=true:=by simp only[Bool.and_eq_true] at hs;exact hs.1
 have h2:iT fr to b=true:=by simp only[Bool.and_eq_true] at hs;exact hs.2
 rw[h1] at sa;rw[h2] at sb;refine fn0 Cd.s_MatchDecks_k fun X=>?_;simp -dsimp only[go_sem,cFd,sa,sb]
 repeat' first|simp -dsimp only[go_sem,cFd,sa,sb,Bool.not_true,Bool.or_false,Bool.false_or,List.take_succ_cons,List.take_zero,List.drop_succ_cons,List.drop_zero]|apply Br.mk<;>intro h<;>try simp -dsimp only[h]|refine aA.c (by first|exact CC|exact bY a fr to oa ca ha.1|exact bY b fr to ob cb hb.1|exact aEQ a b fr to ha hb.1 oa ob ca cb|exact aEQ b a fr to hb ha.1 ob oa cb ca) ?_|refine aC ?_|fail
 all_goals (have hz:mtC fr to a b=0:=by simp[mtC,hc,hs]
            have hv:mtV fr to a b=.sl 1 (E cD (mtL fr to a b)):=by simp[mtV,hz]
            rw[hz,hv]
            first|exact⟨_,_,rfl,rfl⟩|(refine aS rfl)|trace_state)
end
section
variable [Vs.Envs]
attribute [local irreducible] Vs.Fn cZ aW dA dB l03 chB rk cd3 chI stp aY stb oU
theorem aGK (l:List Int) (hl:l.length≤1048576):Vs.Fn Tryz.prog F.oP [] [.sl 1 (E cI l)] (.loc (.b 0) 0 l.length) [some (.arr 1 (E cI l) false)]:=by
 refine fn1 Cd.s_l00Own_k [.t 5 0] [.arr 1 (E cI l) false] fun X=>?_;unfold Cd.oP
 repeat' first|simp -dsimp only[go_sem,aG,List.flatMap_cons,List.flatMap_nil,bA,bN,aZ,List.getD_cons_zero,List.append_nil,List.nil_append,List.cons_append]|apply Br.mk<;>intro h<;>try simp -dsimp only[h]|refine aC ?_|fail
 all_goals first|exact⟨_,_,rfl,rfl⟩
def uJ (cf:Int→Int→Int) (i:Int) (o:List Int):Nat→Nat
 |0=>0
 |k+1=>if cf i (o.getD k 0)<0 then uJ cf i o k else k+1
theorem aHQ (cf:Int→Int→Int) (i:Int) (o:List Int):uJ cf i o 0=0:=rfl
theorem aA1 (cf:Int→Int→Int) (i:Int) (o:List Int) (k:Nat):uJ cf i o (k+1)=if cf i (o.getD k 0)<0 then uJ cf i o k else k+1:=rfl
theorem aD5 (cf:Int→Int→Int) (i:Int) (o:List Int):∀k,uJ cf i o k≤k
 |0=>Nat.le_refl _
 | k+1=>by
  rw[uJ];split
  ·exact Nat.le_succ_of_le (aD5 cf i o k)
  ·exact Nat.le_refl _
def fE (cf:Int→Int→Int):Nat→List Int
 |0=>[]
 |n+1=>(fE cf n).take (uJ cf n (fE cf n) (fE cf n).length)++[(n:Int)]++(fE cf n).drop (uJ cf n (fE cf n) (fE cf n).length)
theorem tN (cf:Int→Int→Int):∀n,(fE cf n).Perm (iota n)
 |0=>List.Perm.refl _
 | n+1=>by
  rw[fE,aDd];generalize uJ cf n (fE cf n) (fE cf n).length=k
  have h1:((fE cf n).take k++[(n:Int)]++(fE cf n).drop k).Perm ((fE cf n).take k++(fE cf n).drop k++[(n:Int)]):=by
   rw[List.append_assoc,List.append_assoc];exact List.Perm.append_left _ List.perm_append_comm
  rw[List.take_append_drop] at h1;exact h1.trans (List.Perm.append_right _ (tN cf n))
theorem aB3 (cf:Int→Int→Int) (n:Nat):(fE cf n).length=n:=by rw[(tN cf n).length_eq,mW]
end
section
variable [Vs.Envs]
attribute [local irreducible] Vs.Fn cZ aW dA dB l03 chB rk cd3 chI stp aY stb oU fE uJ
theorem aI3 {fr to:Int}{l:List (List Int)}{x:Int} (h:inO l.length x):(E cSt (bQ fr to l)).getD x.toNat []=[.v (.string (txt (fH fr to (l.getD x.toNat []))))]:=by
 have hlt:x.toNat<l.length:=by have:=h.1;have:=h.2;omega
 rw[aT (by simpa[bQ] using hlt)];simp[cSt,bQ,List.getD,hlt]
attribute [local go_sem] aG List.mem_singleton List.mem_cons List.not_mem_nil or_false false_or Vs.Name.t.injEq List.flatMap_cons List.flatMap_nil bA bN aZ List.getD_cons_zero List.append_nil List.nil_append List.cons_append in
theorem aHE (l:List (List Int)) (fr to:Int) (ho:∀c,c∈l→okF fr to c) (hall:bT fr to l=true) (hl:l.length≤40):Fz F.oO [.sl 1 (E cSt (bQ fr to l))] (.sl 1 (E cI (fE (cfO fr to l) l.length))):=by
 have hkl:(E cSt (bQ fr to l)).length=l.length:=by rw[aG];simp[bQ]
 have hch:∀x,inO l.length x→cB (fH fr to (l.getD x.toNat []))=true:=fun x hx=>List.all_eq_true.1 hall _ (mU hx)
 have hcp:∀x y,inO l.length x→inO l.length y→Fz F.fJ [.v (.string (txt (fH fr to (l.getD x.toNat [])))),.v (.string (txt (fH fr to (l.getD y.toNat []))))] (.v (.int .i64 (cfO fr to l x y))):=fun x y hx hy =>
  vC _ _ (aAD (ho _ (mU hx))) (by rw[pU ho hx,pU ho hy]) (hch x hx) (hch y hy)
 have hke:∀x,inO l.length x→(E cSt (bQ fr to l)).getD x.toNat []=[.v (.string (txt (fH fr to (l.getD x.toNat []))))]:=fun x hx=>aI3 hx;generalize E cSt (bQ fr to l)=K at *
 generalize cfO fr to l=cf at *
 refine fn0 Cd.s_l07Places_k fun X=>?_
 repeat' first|simp -dsimp only[go_sem,List.length_take,List.length_drop,hkl]|apply Br.mk<;>intro h<;>try simp -dsimp only[h]|refine aC ?_|fail
 refine aN.at dM (X:={zz:Nat×(Unit) // zz.1≤l.length∧True}) (fun zz=>[(3,.loc (.t 3 0) 0 zz.1.1),(4,.v (.int .i64 zz.1.1))]) (fun zz=>[(.t 3 0,.arr 1 (E cI (fE cf zz.1.1)) false)]) (fun zz=>l.length-zz.1.1) ⟨(0,()),by omega,trivial⟩ ?_ ?_
 ·simp[Vs.LeL,Vs.look,Vs.aB,Vs.aP,Vs.aK,Vs.hset,Vs.aL,Vs.E,fE]
 ·rintro⟨⟨i,_⟩,hi,hg⟩;dsimp only at hi hg;simp -dsimp only[go_sem,List.length_take,List.length_drop,hkl];refine Br.mk (fun hc=>?_) fun hc=>?_
  ·have hlt:i<l.length:=Dq;have hw:=aH hlt (by omega);have hpl:=aB3 cf i
   have hpi:∀k,k<i→inO l.length ((fE cf i).getD k 0):=fun k hk=>by
    have h1:=aBJ _ ((tN cf i).mem_iff.1 (fF (by omega:k<(fE cf i).length)));exact⟨h1.1,by have:=h1.2;omega⟩
   have hii:inO l.length (i:Int):=⟨by omega,by omega⟩;have hki:=hke _ hii;rw[Int.toNat_natCast] at hki;have hps:fE cf (i+1)=(fE cf i).take (uJ cf i (fE cf i) (fE cf i).length)++[(i:Int)]++(fE cf i).drop (uJ cf i (fE cf i) (fE cf i).length):=by rw[fE]
   rw[hpl] at hps;have hdl:=aD5 cf i (fE cf i) i;generalize fE cf i=o at *
   generalize hd:uJ cf i o i=d at *
   simp -dsimp only[go_sem,hkl,hw,List.length_take,List.length_drop];refine aN.at dM (X:={k:Nat // k≤i∧uJ cf i o k=d}) (fun k=>[(5,.v (.int .i64 (k.1:Nat)))]) (fun k=>[]) (fun k=>k.1) ⟨i,Nat.le_refl _,hd⟩ ?_ ?_
   ·exact le0
   ·rintro⟨k,hk,hkd⟩
    try dsimp only at hk hkd
    match k,hk,hkd with
    | 0,hk,hkd =>
     have e1:decide (((0:Nat):Int)>0)=false:=rfl;obtain rfl:d=0:=by rw[←hkd,aHQ]
     simp -dsimp only[go_sem,e1,List.length_take,List.length_drop];have htk:(E cI o).take (0)=E cI (o.take (0)):=by simp[E,List.map_take]
     have hdk:((E cI o).drop (0)).take (i-(0))=E cI (o.drop (0)):=by rw[List.take_of_length_le (by rw[List.length_drop,aG];omega)];simp[E,List.map_drop]
     have hlt2:(o.take (0)).length=0:=by first|(simp;done)|(simp;omega)
     have hdl2:(o.drop (0)).length=i-(0):=by rw[List.length_drop,hpl]
     have OW:=aGK (o.take (0)) (by omega);rw[hlt2] at OW;have hap:E cI (o.take (0))++[[.v (.int .i64 (i:Int))]]=E cI (o.take (0)++[(i:Int)]):=by rw[aR];rfl
     have hfin:E cI (o.take (0)++[(i:Int)])++E cI (o.drop (0))=E cI (fE cf (i+1)):=by simp only[hps,aR]
     have hz:((((0:Nat):Int))-0).toNat=0:=by omega
     have hz2:((i:Int)-((0:Nat):Int)).toNat=i-(0):=by omega
     have hz3:(((0:Nat):Int)).toNat=0:=by omega
     have hfb:∀b,some b∈[some (Blk.arr 1 (E cI (o.take (0))) false)]→Vs.vR b:=by
      intro b hb;simp only[List.mem_singleton,Option.some.injEq] at hb;subst hb;exact aD2 (fun x=>rfl)
     refine RgK.mk rfl ?_;simp -dsimp only[go_sem,htk,hdk,hap,hfin,hw,hpl,hkl,e1,List.length_take,List.length_drop];refine⟨⟨⟨by omega,by omega,by omega⟩,?_⟩,fun h=>absurd rfl h⟩;simp only[hz,List.take_zero];refine aA.lend OW rfl hfb rfl ?_;have hf0:[AV.v (.int .i64 (i:Int))]::E cI o=E cI (fE cf (i+1)):=by simp only[hps];rfl
     have hnil:E cI []=[]:=rfl;have hta:(E cI o).take i=E cI o:=List.take_of_length_le (by rw[aG];omega);clear htk hdk hap hfin;simp -dsimp only[go_sem,hz,hz2,hz3,Nat.sub_zero,List.take_zero,List.replicate_succ,List.replicate_zero,List.flatten_cons,List.flatten_nil,List.set_cons_zero,List.length_cons,List.length_nil,List.length_append,hf0,hnil,hta,hw,hpl,hkl,e1,List.length_take,List.length_drop]
     repeat' (refine aC ?_)
     have hsum:1+i=i+1:=by omega
     first
      |exact⟨⟨(i+1,()),by first|omega|exact⟨by omega,trivial⟩,trivial⟩,by simp[Vs.LeL,Vs.look,Vs.aB,Vs.aP,Vs.aK,Vs.hset,Vs.aL,hsum],by simp only;omega⟩

    | k+1,hk,hkd =>
     have e1:decide (((k+1:Nat):Int)>0)=true:=by first|(simp;done)|(simp;omega)
     have w1:IntKind.i64.wrap (((k+1:Nat):Int)-1)=(k:Int):=by rw[aO (by omega) (by omega)];omega
     have hj:=hpi k (by omega);have hj0:=hj.1;have hj1:=hj.2;have hkj:=hke _ hj;have hoj:(E cI o).getD k []=[.v (.int .i64 (o.getD k 0))]:=gZ (by omega);have HC:=hcp _ _ hii hj;rw[Int.toNat_natCast] at HC;rw[aA1] at hkd;by_cases hneg:cf i (o.getD k 0)<0
     ·have e2:decide (cf i (o.getD k 0)<0)=true:=decide_eq_true hneg;rw[if_pos hneg] at hkd;simp -dsimp only[go_sem,e1,e2,List.length_take,List.length_drop]
      repeat' first|simp -dsimp only[go_sem,e1,e2,w1,hkj,hki,hoj,hkl,hpl,List.length_take,List.length_drop]|apply Br.mk<;>intro h<;>try simp -dsimp only[h]|refine aA.c (by first|exact HC) ?_|refine aC ?_|fail
      all_goals first|(exact⟨⟨k,by omega,hkd⟩,by simp[Vs.LeL,Vs.look,Vs.aB,Vs.aP,Vs.aK,Vs.hset,Vs.aL],by simp only;omega⟩)|omega
     ·have e2:decide (cf i (o.getD k 0)<0)=false:=decide_eq_false hneg;rw[if_neg hneg] at hkd;obtain rfl:d=k+1:=hkd.symm;simp -dsimp only[go_sem,e1,e2,List.length_take,List.length_drop];have htk:(E cI o).take (k+1)=E cI (o.take (k+1)):=by simp[E,List.map_take]
      have hdk:((E cI o).drop (k+1)).take (i-(k+1))=E cI (o.drop (k+1)):=by rw[List.take_of_length_le (by rw[List.length_drop,aG];omega)];simp[E,List.map_drop]
      have hlt2:(o.take (k+1)).length=k+1:=by first|(simp;done)|(simp;omega)
      have hdl2:(o.drop (k+1)).length=i-(k+1):=by rw[List.length_drop,hpl]
      have OW:=aGK (o.take (k+1)) (by omega);rw[hlt2] at OW;have hap:E cI (o.take (k+1))++[[.v (.int .i64 (i:Int))]]=E cI (o.take (k+1)++[(i:Int)]):=by rw[aR];rfl
      have hfin:E cI (o.take (k+1)++[(i:Int)])++E cI (o.drop (k+1))=E cI (fE cf (i+1)):=by simp only[hps,aR]
      have hz:((((k+1:Nat):Int))-0).toNat=k+1:=by omega
      have hz2:((i:Int)-((k+1:Nat):Int)).toNat=i-(k+1):=by omega
      have hz3:(((k+1:Nat):Int)).toNat=k+1:=by omega
      have hfb:∀b,some b∈[some (Blk.arr 1 (E cI (o.take (k+1))) false)]→Vs.vR b:=by
       intro b hb;simp only[List.mem_singleton,Option.some.injEq] at hb;subst hb;exact aD2 (fun x=>rfl)
      refine RgK.mk rfl ?_;simp -dsimp only[go_sem,htk,hdk,hap,hfin,hw,hpl,hkl,e1,e2,w1,hj0,hj1,hkj,hki,hoj,List.length_take,List.length_drop];refine⟨⟨by omega,by omega⟩,⟨by omega,by omega⟩,aA.flat HC rfl ?_⟩;simp -dsimp only[go_sem,htk,hdk,hap,hfin,hw,hpl,hkl,e1,e2,w1,hj0,hj1,hkj,hki,hoj,List.length_take,List.length_drop];refine⟨⟨⟨by omega,by omega,by omega⟩,?_⟩,fun h=>absurd rfl h⟩;simp only[hz,htk];refine aA.lend OW rfl hfb rfl ?_;simp -dsimp only[go_sem,hz,hz2,hz3,Nat.sub_zero,List.take_zero,List.replicate_succ,List.replicate_zero,List.flatten_cons,List.flatten_nil,List.set_cons_zero,List.length_cons,List.length_nil,List.length_append,htk,hdk,hap,hfin,hlt2,hdl2,hw,hpl,hkl]
      repeat' (refine aC ?_)
      have hsum:k+1+1+(i-(k+1))=i+1:=by omega
      first
       |exact⟨⟨(i+1,()),by first|omega|exact⟨by omega,trivial⟩,trivial⟩,by simp[Vs.LeL,Vs.look,Vs.aB,Vs.aP,Vs.aK,Vs.hset,Vs.aL,hsum],by simp only;omega⟩

  ·have hge:i=l.length:=by
    have:¬i<l.length:=Dq;omega
   subst hge;simp -dsimp only[go_sem,List.length_take,List.length_drop,hkl];have hpl:=aB3 cf l.length;have htk:(E cI (fE cf l.length)).take l.length=E cI (fE cf l.length):=List.take_of_length_le (by rw[aG];omega)
   first|exact⟨⟨_,_,rfl,rfl⟩,fun h=>h rfl⟩|(rw[htk];exact⟨⟨_,_,rfl,rfl⟩,fun h=>h rfl⟩)|(simp[htk];done)
end
section
variable [Vs.Envs]
attribute [local irreducible] Vs.Fn cZ aW dA dB l03 chB rk cd3 chI stp aY
theorem aGR (cf:Int→Int→Int) (i:Int) (o:List Int):∀K k,uJ cf i o K≤k→k<K→cf i (o.getD k 0)<0
 |0,k,_,h=>by omega
 | K+1,k,h1,h2=>by
  rw[aA1] at h1;split at h1
  ·rename_i hn;by_cases hk:k=K
   ·subst hk;exact hn
   ·exact aGR cf i o K k h1 (by omega)
  ·omega
theorem aGQ (cf:Int→Int→Int) (i:Int) (o:List Int):∀K,0<uJ cf i o K→¬cf i (o.getD (uJ cf i o K-1) 0)<0
 |0,h=>by simp[uJ] at h
 | K+1,h=>by
  rw[aA1] at h⊢;split
  ·rename_i hn;rw[if_pos hn] at h;exact aGQ cf i o K h
  ·rename_i hn;exact hn
theorem aEw {fr to:Int}{l:List (List Int)} (ho:∀c,c∈l→okF fr to c):∀n,n≤l.length→(fE (cfO fr to l) n).Pairwise (wP fr to l)
 |0,_=>List.Pairwise.nil
 | n+1,h=>by
  have ih:=aEw ho n (by omega);have hin:∀x,x∈fE (cfO fr to l) n→inO n x:=fun x hx=>aBJ x ((tN _ n).mem_iff.1 hx);have hlen:=aB3 (cfO fr to l) n;rw[fE];have hhi:=aGR (cfO fr to l) n (fE (cfO fr to l) n) (fE (cfO fr to l) n).length;have hlo:=aGQ (cfO fr to l) n (fE (cfO fr to l) n) (fE (cfO fr to l) n).length;have hle:=aD5 (cfO fr to l) n (fE (cfO fr to l) n) (fE (cfO fr to l) n).length;generalize uJ (cfO fr to l) n (fE (cfO fr to l) n) (fE (cfO fr to l) n).length=d at *
  generalize fE (cfO fr to l) n=o at *
  have hn:inO l.length (n:Int):=⟨by omega,by omega⟩;have hup:∀x,inO n x→inO l.length x:=fun x hx=>⟨hx.1,by have:=hx.2;omega⟩
  have hgt:∀y,y∈o.drop d→wP fr to l n y:=by
   intro y hy;obtain⟨j,hj,rfl⟩:=List.mem_iff_getElem.1 hy;rw[List.length_drop] at hj;rw[List.getElem_drop];have hm:o[d+j]∈o:=List.getElem_mem _;have h1:=hhi (d+j) (by omega) (by omega);have e:o.getD (d+j) 0=o[d+j]:=by simp[List.getD,(by omega:d+j<o.length)]
   rw[e] at h1;exact⟨⟨hn,hup _ (hin _ hm)⟩,.inl h1⟩
  have hlt:∀x,x∈o.take d→wP fr to l x n:=by
   intro x hx;obtain⟨j,hj,rfl⟩:=List.mem_take_iff_getElem.1 hx;have hjd:j<d:=by omega
   have hdl:d-1<o.length:=by omega
   have h1:=hlo (by omega);have e:o.getD (d-1) 0=o[d-1]:=by simp[List.getD,hdl]
   rw[e] at h1;have hm:o[d-1]∈o:=List.getElem_mem _;have hmi:=hin _ hm;have ha:=aBO ho hn (hup _ hmi)
   have hlast:wP fr to l o[d-1] n:=by
    refine⟨⟨hup _ hmi,hn⟩,?_⟩;by_cases h0:cfO fr to l o[d-1] n=0
    ·exact .inr ⟨h0,hmi.2⟩
    ·exact .inl (by omega)
   by_cases hj1:j=d-1
   ·subst hj1;exact hlast
   ·exact lU ho _ _ _ (List.pairwise_iff_getElem.1 ih j (d-1) (by omega) hdl (by omega)) hlast
  have hsp:(o.take d++o.drop d).Pairwise (wP fr to l):=by rw[List.take_append_drop];exact ih
  obtain⟨p1,p2,p3⟩:=List.pairwise_append.1 hsp;rw[List.append_assoc,List.pairwise_append];refine⟨p1,?_,?_⟩
  ·rw[List.singleton_append,List.pairwise_cons];exact⟨hgt,p2⟩
  ·intro a ha b hb;rw[List.singleton_append,List.mem_cons] at hb;rcases hb with rfl|hb
   ·exact hlt a ha
   ·exact p3 a ha b hb
theorem aKk {fr to:Int}{l:List (List Int)} (ho:∀c,c∈l→okF fr to c) (hl:l.length≤40):fE (cfO fr to l) l.length=oU fr to l:=by
 obtain⟨h1,h2⟩:=aB5 ho hl;exact aDB (lU ho) (aAQ ho) ((tN _ _).trans h1.symm) (aEw ho _ (Nat.le_refl _)) h2
end
section
variable [Vs.Envs]
attribute [local irreducible] Vs.Fn cZ aW dA dB l03 chB rk cd3 chI stp aY stb oU fE uJ
attribute [local go_sem] aG List.replicate_succ List.replicate_zero List.flatten_cons List.flatten_nil List.cons_append List.nil_append List.set_cons_zero List.set_cons_succ List.length_cons List.length_nil List.length_set
theorem aIf (l:List (List Int)) (fr to:Int) (hs:∀x,x∈l→x.length≤1048576) (hl:l.length≤1048576):Fz F.rM [.sl 1 (E cC l),.agg (cFd fr to)] (.v (.int .i64 (bH fr to l))):=by
 have VD:=nK l hs hl;have DC:=iW l;have IF:=vF fr to (bD l);cases hd:aX l
 ·rw[hd] at VD;rw[show bH fr to l=1 by simp[bH,hd]];refine fn0 Cd.i_sortCode_k fun X=>?_
  repeat' first|simp -dsimp only[go_sem,cC,cFd]|apply Br.mk<;>intro h<;>try simp -dsimp only[h]|refine aA.c (by first|exact VD|exact DC|exact IF) ?_|refine aC ?_|fail
  all_goals first|exact⟨_,_,rfl,rfl⟩|simp
 rw[hd] at VD;cases hf:dU fr to (bD l)
 ·rw[hf] at IF;rw[show bH fr to l=2 by simp[bH,hd,hf]];refine fn0 Cd.i_sortCode_k fun X=>?_
  repeat' first|simp -dsimp only[go_sem,cC,cFd]|apply Br.mk<;>intro h<;>try simp -dsimp only[h]|refine aA.c (by first|exact VD|exact DC|exact IF) ?_|refine aC ?_|fail
  all_goals first|exact⟨_,_,rfl,rfl⟩|simp
 rw[hf] at IF;have HF:=qI l fr to (fA hd hf) hl;cases ha:bT fr to l
 ·rw[ha] at HF;rw[show bH fr to l=8 by simp[bH,hd,hf,ha]];refine fn0 Cd.i_sortCode_k fun X=>?_
  repeat' first|simp -dsimp only[go_sem,cC,cFd]|apply Br.mk<;>intro h<;>try simp -dsimp only[h]|refine aA.c (by first|exact VD|exact DC|exact IF|exact HF) ?_|refine aC ?_|fail
  all_goals first|exact⟨_,_,rfl,rfl⟩|simp
 rw[ha] at HF;rw[show bH fr to l=0 by simp[bH,hd,hf,ha]];refine fn0 Cd.i_sortCode_k fun X=>?_
 repeat' first|simp -dsimp only[go_sem,cC,cFd]|apply Br.mk<;>intro h<;>try simp -dsimp only[h]|refine aA.c (by first|exact VD|exact DC|exact IF|exact HF) ?_|refine aC ?_|fail
 all_goals first|exact⟨_,_,rfl,rfl⟩|simp
def pJ (fr to:Int) (l:List (List Int)):AV:=if bH fr to l=0 then .sl 1 (E cC (iJ fr to l)) else .v (.slice none 0 0)
theorem aBI {fr to:Int}{l:List (List Int)} (h:bH fr to l=0):aX l=true∧dU fr to (bD l)=true∧bT fr to l=true:=by
 unfold bH at h;cases hd:aX l<;>cases hf:dU fr to (bD l)<;>cases ha:bT fr to l<;>simp[hd,hf,ha] at h⊢
theorem kX {l:List (List Int)} (h:aX l=true):l.length≤40:=by
 simp only[aX,Bool.and_eq_true,decide_eq_true_eq] at h;exact h.2
theorem aCO (l:List (List Int)) (fr to:Int) (hs:∀x,x∈l→x.length≤1048576) (hl:l.length≤1048576):Fz F.rR [.sl 1 (E cC l),.agg (cFd fr to)] (.tup [pJ fr to l,.v (.int .i64 (bH fr to l))]):=by
 have SC:=aIf l fr to hs hl;by_cases h0:bH fr to l=0
 ·obtain⟨hd,hf,ha⟩:=aBI h0;have SB:=zT l fr to (fA hd hf) (kX hd);rw[show pJ fr to l=.sl 1 (E cC (iJ fr to l)) by simp[pJ,h0],h0];rw[h0] at SC;refine fn0 Cd.i_SortedBy_k fun X=>?_
  repeat' first|simp -dsimp only[go_sem,cC,cFd]|apply Br.mk<;>intro h<;>try simp -dsimp only[h]|refine aA.c (by first|exact SC|exact SB) ?_|refine aC ?_|fail
  all_goals first|exact⟨_,_,rfl,rfl⟩|simp
 ·have e0:(bH fr to l != 0)=true:=by simp[h0]
  rw[show pJ fr to l=.v (.slice none 0 0) by simp[pJ,h0]];generalize bH fr to l=c at *
  refine fn0 Cd.i_SortedBy_k fun X=>?_
  repeat' first|simp -dsimp only[go_sem,cC,cFd,e0]|apply Br.mk<;>intro h<;>try simp -dsimp only[h]|refine aA.c (by first|exact SC) ?_|refine aC ?_|fail
  all_goals first|exact⟨_,_,rfl,rfl⟩|simp
theorem yR (l:List (List Int)) (fr to:Int) (hs:∀x,x∈l→x.length≤1048576) (hl:l.length≤1048576):Fz F.qX [.sl 1 (E cC l),.agg (cFd fr to)] (.tup [pJ fr to l,.v (.int .i64 (bH fr to l))]):=by
 have KS:=j4 l fr to hs hl;by_cases h0:bH fr to l=0
 ·obtain⟨hd,hf,ha⟩:=aBI h0;have ho:=fA hd hf;have h40:=kX hd;have PL:=aHE l fr to ho ha h40;rw[aKk ho h40] at PL;rw[show pJ fr to l=.sl 1 (E cC (iJ fr to l)) by simp[pJ,h0],h0];rw[show gV fr to l=.sl 1 (E cSt (bQ fr to l)) by simp[gV,h0],h0] at KS;have hol:=wQ fr to l;have hoi:=aDL ho h40;rw[show iJ fr to l=(oU fr to l).map (fun i=>l.getD i.toNat []) from rfl];generalize oU fr to l=o at *
  refine fn0 Cd.s_SortedBy_k fun X=>?_
  repeat' first|simp -dsimp only[go_sem,cC,cFd]|apply Br.mk<;>intro h<;>try simp -dsimp only[h]|refine aA.c (by first|exact KS|exact PL) ?_|refine aC ?_|fail
  refine aN.at dM (X:={zz:Nat×(Unit) // zz.1≤o.length∧True}) (fun zz=>[(9,.loc (.t 9 0) 0 zz.1.1),(10,.v (.int .i64 zz.1.1))]) (fun zz=>[(.t 9 0,.arr 1 (E cC ((o.take zz.1.1).map fun i=>l.getD i.toNat [])) false)]) (fun zz=>o.length-zz.1.1) ⟨(0,()),by omega,trivial⟩ ?_ ?_
  ·simp[Vs.LeL,Vs.look,Vs.aB,Vs.aP,Vs.aK,Vs.hset,Vs.aL,Vs.E]
  ·rintro⟨⟨i,_⟩,hi,hg⟩;dsimp only at hi hg;simp -dsimp only[go_sem,cC,cFd];refine Br.mk (fun hc=>?_) fun hc=>?_
   ·have hlt:i<o.length:=Dq;have hw:=aH hlt (by omega);have hx:=hoi _ (List.getElem_mem hlt);have gx:=aA7 hx;have hm:=mU hx;have hc20:(l.getD o[i].toNat []).length≤20:=(ho _ hm).2.2.2;have NC:=vD (l.getD o[i].toNat []) (by omega);have x0:=hx.1;have x1:=hx.2
    have hap:E cC ((o.take i).map fun i=>l.getD i.toNat [])++[[.sl 1 (E cI (l.getD o[i].toNat []))]]=E cC ((o.take (i+1)).map fun i=>l.getD i.toNat []):=by
     rw[bK hlt,List.map_append,aR];rfl
    have hal:(E cC ((o.take i).map fun i=>l.getD i.toNat [])).length=i:=by rw[aG];simp;omega
    repeat' first|simp -dsimp only[go_sem,dI hlt,hw,hap,hal,gx,cC,cFd]|apply Br.mk<;>intro h<;>try simp -dsimp only[h]|refine aA.c (by first|exact NC) ?_|refine aC ?_|fail
    all_goals first|omega|(exact nx (i+1,()) trivial (h2:=by simp[Vs.LeL,Vs.look,Vs.aB,Vs.aP,Vs.aK,Vs.hset,Vs.aL,hap]))
   ·have hge:i=o.length:=by
     have:¬i<o.length:=Dq;omega
    subst hge;simp -dsimp only[go_sem,cC,cFd]
    have htk:(E cC ((o.take o.length).map fun i=>l.getD i.toNat [])).take o.length=E cC (o.map fun i=>l.getD i.toNat []):=by
     rw[List.take_of_length_le (Nat.le_refl o.length)];exact List.take_of_length_le (by rw[aG];simp)
    first|exact⟨⟨_,_,rfl,rfl⟩,fun h=>h rfl⟩|(rw[htk];exact⟨⟨_,_,rfl,rfl⟩,fun h=>h rfl⟩)|(simp[htk];done)
 ·have e0:(bH fr to l != 0)=true:=by simp[h0]
  rw[show pJ fr to l=.v (.slice none 0 0) by simp[pJ,h0]];rw[show gV fr to l=.v (.slice none 0 0) by simp[gV,h0]] at KS;generalize bH fr to l=c at *
  refine fn0 Cd.s_SortedBy_k fun X=>?_
  repeat' first|simp -dsimp only[go_sem,cC,cFd,e0]|apply Br.mk<;>intro h<;>try simp -dsimp only[h]|refine aA.c (by first|exact KS) ?_|refine aC ?_|fail
  all_goals first|exact⟨_,_,rfl,rfl⟩|simp
end
end Go.Proofs.YtonkjfiffcfaoaaGreat
