/- The sum of a field: the program's way. -/
import Derived.Test.YtkgeiaideklmoaaGreatZwSh
import Derived.Test.YtkgeiaideklmoaaGreatVtR
import Derived.Test.YtkgeiaideklmoaaGreatZwSf
set_option linter.all false
set_option maxHeartbeats 8000000
namespace Go.Proofs.YtkgeiaideklmoaaGreat
open Go.Vs
section
variable [Vs.Envs]
attribute [local irreducible] Vs.Fn chOK areCh chTo chAt l03 chB rk cd3 chI stp stpTo flt rA zR yU mat iQ gQ stF
attribute [local go_sem] List.replicate_succ List.replicate_zero List.flatten_cons List.flatten_nil List.cons_append List.nil_append List.set_cons_zero List.set_cons_succ List.length_cons List.length_nil List.length_set
theorem aGY:∀{a b:List Int},a.length=b.length→bY a=true→bY b=true→(iR a b=0↔a=b)
 | [],[],_,_,_=>by simp[iR]
 | [],y::b,h,_,_=>by simp at h
 |x::a,[],h,_,_=>by simp at h
 | x::a,y::b,h,ha,hb=>by
  simp only[bY,List.all_cons,Bool.and_eq_true,decide_eq_true_eq] at ha hb;have H:=aGY (a:=a) (b:=b) (by simpa using h) (by simpa[bY] using ha.2) (by simpa[bY] using hb.2);rw[iR];by_cases F:rk x<rk y
  ·rw[if_pos F];refine⟨fun h=>by simp at h,fun h=>?_⟩;simp only[List.cons.injEq] at h;rw[h.1] at F;omega
  ·rw[if_neg F];by_cases h2:rk x>rk y
   ·rw[if_pos h2];refine⟨fun h=>by simp at h,fun h=>?_⟩;simp only[List.cons.injEq] at h;rw[h.1] at h2;omega
   ·rw[if_neg h2,H];have G:x=y:=aIB ha.1 (by omega);simp[G]
theorem aJP {a b:List Int} (M:a.length=b.length) (H:bY a=true) (I:bY b=true) (h:(txt a).data.toList=(txt b).data.toList):a=b:=by
 apply List.ext_getElem M;intro i G h2;have F:=aDj H G;have J:=aDj I h2;rw[h,J] at F;have U:=aBJ a[i];have Y:=aBJ b[i];have L:=uE H G;have O:=uE I h2;have:=aGZ (rk b[i]).toNat (by omega) (rk a[i]).toNat (by omega) F;exact aIB L (by omega)
theorem aDi {a b:List Int} (H:a.length=b.length) (F:bY a=true) (G:bY b=true):((txt a).toList==(txt b).toList)=(iR a b==0):=by
 rw[ByteArray.toList_eq,ByteArray.toList_eq];have h:=aGY H F G;by_cases e:a=b
 ·subst e;have:iR a a=0:=h.2 rfl;simp[this]
 ·have L:¬iR a b=0:=fun h'=>e (h.1 h');have h2:¬(txt a).data.toList=(txt b).data.toList:=fun h'=>e (aJP H F G h');have I:((txt a).data.toList==(txt b).data.toList)=false:=beq_eq_false_iff_ne.2 h2;have J:(iR a b==0)=false:=beq_eq_false_iff_ne.2 L;rw[I,J]
theorem aLD (l:List Int) (G:l.length≤1048576):Fz F.oG [.sl 1 (E cI l)] (.sl 1 (E cI l)):=by
 refine fn0 Cd.s_l00Own_k fun X=>?_;simp -dsimp only[go_sem]
 first
  |exact⟨by omega,rfl,⟨rfl,by omega,by omega⟩,_,_,rfl,rfl⟩
  |exact⟨by omega,rfl,⟨by omega,by omega⟩,_,_,rfl,rfl⟩
  |exact⟨⟨by omega,by omega⟩,⟨by omega,by omega⟩,_,_,rfl,rfl⟩
theorem wI (c:List Int) (G:c.length≤1048576):Fz F.iV [.ro (cC c)] (.agg (cC c)):=by
 refine fn0 Cd.s_l02Own_k fun X=>?_
 repeat' first|simp -dsimp only[go_sem,cC,cFd]|apply Br.mk<;>intro h<;>try simp -dsimp only[h]|refine aD.c (by first|exact aLD c G) ?_|refine aC ?_|fail
 all_goals(exact⟨_,_,rfl,rfl⟩)
theorem tV (fr to:Int) (l:List (List Int)):(bO fr to l).length=l.length:=by simp[bO]
attribute [local go_sem] aI cFd in
theorem aI1 (o:List (List Int)) (x:List Int) (fr to:Int) (ho:∀c,c∈o→okF fr to c) (hh:bP fr to o=true) (hx:okF fr to x) (hxh:bY (fH fr to x)=true) (hl:o.length≤1048576) :
  Fz F.vU [.sl 1 (E cSt (bO fr to o)),.v (.string (txt (fH fr to x)))] (.v (.bool (u7 fr to o x))):=by
 have hkl:=tV fr to o;refine fn0 Cd.s_l09Has_k fun X=>?_;simp -dsimp only[go_sem,hkl];refine aN.at dM (X:={zz:Nat×(Unit) // zz.1≤o.length∧(o.take zz.1).all (fun c=>!(cmF fr to c x==0))=true}) (fun zz=>[(5,.v (.int .i64 zz.1.1))]) (fun zz=>[]) (fun zz=>o.length-zz.1.1) ⟨(0,()),by omega,by simp⟩ ?_ ?_
 ·exact le0
 ·rintro⟨⟨i,_⟩,hi,hg⟩;dsimp only at hi hg;simp -dsimp only[go_sem,hkl];refine Br.mk (fun hc=>?_) fun hc=>?_
  ·have hlt:i<o.length:=Dq;have hw:=aH hlt hl;have hk:=ho _ (List.getElem_mem hlt);have hc:=(List.all_eq_true.1 hh) _ (List.getElem_mem hlt);have hm:(E cSt (bO fr to o)).getD i []=[.v (.string (txt (fH fr to o[i])))]:=by rw[aS (by omega)];simp[bO,cSt]
   have he:=aDi ((kQ hk).trans (kQ hx).symm) hc hxh;cases hz:iR (fH fr to o[i]) (fH fr to x)==0
   ·have hp:(cmF fr to o[i] x==0)=false:=hz
    repeat' first|simp -dsimp only[go_sem,hw,hm,he,hz,hkl]|apply Br.mk<;>intro h<;>try simp -dsimp only[h]|refine aC ?_|fail
    all_goals first|omega|(exact nx (i+1,()) (aZ (p:=fun c=>!(cmF fr to c x==0)) hlt hg (by simp[hp])))
   ·have hp:(cmF fr to o[i] x==0)=true:=hz;have hany:u7 fr to o x=true:=List.any_eq_true.2 ⟨o[i],List.getElem_mem hlt,hp⟩
    repeat' first|simp -dsimp only[go_sem,hw,hm,he,hz,hkl]|apply Br.mk<;>intro h<;>try simp -dsimp only[h]|refine aC ?_|fail
    all_goals first|omega|(refine aV ?_;simp[hany];done)|(simp[hany];done)
  ·have hge:i=o.length:=by
    have:¬i<o.length:=Dq;omega
   subst hge;simp -dsimp only[go_sem,hkl]
   have hany:u7 fr to o x=false:=by
    unfold u7;rw[List.any_eq_false];intro c hc;rw[List.take_length] at hg;have:=(List.all_eq_true.1 hg) c hc;simpa using this
   simp[hany]
theorem aBW {fr to:Int}{l o:List (List Int)}{e:Bool}{i:Nat} (h:i<l.length):mat fr to (l.take (i+1)) o e=mat fr to (l.take i) o e++(if u7 fr to o l[i]==e then[l[i]] else[]):=by
 unfold mat;rw[wS h];cases u7 fr to o l[i]==e<;>simp
theorem aGK (fr to:Int) (l o:List (List Int)) (e:Bool):(mat fr to l o e).length≤l.length:=by unfold mat;exact xU ..
theorem aIU (fr to:Int) (o:List (List Int)) (e:Bool):mat fr to [] o e=[]:=by unfold mat flt;rfl
theorem aGJ {fr to:Int}{l o:List (List Int)}{e:Bool}{i:Nat} (h:i<l.length) (hh:u7 fr to o l[i]=e):E cC (mat fr to (l.take i) o e)++[[.sl 1 (E cI l[i])]]=E cC (mat fr to (l.take (i+1)) o e):=by
 rw[aBW h,hh,aY];simp[E,cC]
theorem aED {fr to:Int}{l o:List (List Int)}{e:Bool}{i:Nat} (h:i<l.length) (hh:u7 fr to o l[i]=e):(mat fr to (l.take (i+1)) o e).length=(mat fr to (l.take i) o e).length+1:=by
 rw[aBW h,hh];simp
theorem aEC {fr to:Int}{l o:List (List Int)}{e:Bool}{i:Nat} (h:i<l.length) (hh:u7 fr to o l[i] = !e):mat fr to (l.take (i+1)) o e=mat fr to (l.take i) o e:=by
 rw[aBW h,hh];cases e<;>simp
attribute [local go_sem] aI cFd in
theorem aEL (l o:List (List Int)) (fr to:Int) (hl:aU l) (hol:o.length≤1048576) (oa:∀c,c∈l→okF fr to c) (ob:∀c,c∈o→okF fr to c) (ca:bP fr to l=true) (cb:bP fr to o=true) :
  Fz F.nH [.sl 1 (E cC l),.sl 1 (E cSt (bO fr to l)),.sl 1 (E cSt (bO fr to o))] (.tup [.sl 1 (E cC (mat fr to l o true)),.sl 1 (E cC (mat fr to l o false))]):=by
 have hkl:=tV fr to l;have hkm:=tV fr to o;refine fn0 Cd.s_l09Match_k fun X=>?_;simp -dsimp only[go_sem,hkl,hkm];refine⟨⟨by omega,by omega⟩,⟨by omega,by omega⟩,?_⟩;refine aN.at dM (X:={zz:Nat×(Unit) // zz.1≤l.length∧True}) (fun zz=>[(8,.loc (.t 8 0) 0 (mat fr to (l.take zz.1.1) o true).length),(9,.loc (.t 9 0) 0 (mat fr to (l.take zz.1.1) o false).length),(10,.v (.int .i64 zz.1.1))]) (fun zz=>[(.t 8 0,.arr 1 (E cC (mat fr to (l.take zz.1.1) o true)) false),(.t 9 0,.arr 1 (E cC (mat fr to (l.take zz.1.1) o false)) false)]) (fun zz=>l.length-zz.1.1) ⟨(0,()),by omega,trivial⟩ ?_ ?_
 ·simp[Vs.LeL,Vs.look,Vs.aB,Vs.aQ,Vs.aL,Vs.hset,Vs.aM,aIU,Vs.E]
 ·rintro⟨⟨i,_⟩,hi,hg⟩;dsimp only at hi hg;simp -dsimp only[go_sem,hkl];refine Br.mk (fun hc=>?_) fun hc=>?_
  ·have hlt:i<l.length:=Dq;have hw:=aH hlt hl.1;have hk:=oa _ (List.getElem_mem hlt);have hc:=(List.all_eq_true.1 ca) _ (List.getElem_mem hlt);have hs:=hl.2 _ (List.getElem_mem hlt);have hm:(E cSt (bO fr to l)).getD i []=[.v (.string (txt (fH fr to l[i])))]:=by rw[aS (by omega)];simp[bO,cSt]
   have hm2:(E cC l).getD i []=[.sl 1 (E cI l[i])]:=aS hlt;have hb1:=aGK fr to (l.take i) o true;have hb2:=aGK fr to (l.take i) o false;have ht:(l.take i).length=i:=by simp;omega
   have hl1:=hl.1;cases hz:u7 fr to o l[i]
   ·have g1:=aGJ (e:=false) hlt hz;have g2:=aED (e:=false) hlt hz;have g3:=aEC (e:=true) hlt hz
    repeat' first|simp -dsimp only[go_sem,hw,hm,hm2,hz,g1,hkl,cC]|apply Br.mk<;>intro h<;>try simp -dsimp only[h]|refine aD.c (by first|exact aI1 o l[i] fr to ob cb hk hc hol|exact wI l[i] hs) ?_|refine aC ?_|fail
    all_goals first|omega|(exact nx (i+1,()) trivial (h2:=by simp[Vs.LeL,Vs.look,Vs.aB,Vs.aQ,Vs.aL,Vs.hset,Vs.aM,g2,g3]))
   ·have g1:=aGJ (e:=true) hlt hz;have g2:=aED (e:=true) hlt hz;have g3:=aEC (e:=false) hlt hz
    repeat' first|simp -dsimp only[go_sem,hw,hm,hm2,hz,g1,hkl,cC]|apply Br.mk<;>intro h<;>try simp -dsimp only[h]|refine aD.c (by first|exact aI1 o l[i] fr to ob cb hk hc hol|exact wI l[i] hs) ?_|refine aC ?_|fail
    all_goals first|omega|(exact nx (i+1,()) trivial (h2:=by simp[Vs.LeL,Vs.look,Vs.aB,Vs.aQ,Vs.aL,Vs.hset,Vs.aM,g2,g3]))
  ·have hge:i=l.length:=by
    have:¬i<l.length:=Dq;omega
   subst hge;simp -dsimp only[go_sem,hkl];rw[List.take_length];have k1:(E cC (mat fr to l o true)).take (mat fr to l o true).length=E cC (mat fr to l o true):=aAU _;have k2:(E cC (mat fr to l o false)).take (mat fr to l o false).length=E cC (mat fr to l o false):=aAU _;exact⟨⟨_,_,rfl,rfl⟩,fun h=>h rfl⟩
def twV (fr to:Int) (a b d:List (List Int)):AV:=if iQ fr to [a,b]=0 then .sl 1 (E cSt (bO fr to d)) else .v (.slice none 0 0)
theorem aF0 (fr to:Int) (a b:List (List Int)):iQ fr to [a,b]=if bB a&&bB b then(if d9 fr to (bD a)&&d9 fr to (bD b) then(if bP fr to a&&bP fr to b then 0 else 8) else 2) else 1:=by
 unfold iQ;simp only[List.all_cons,List.all_nil,Bool.and_true]
theorem aDJ (a b:List (List Int)) (fr to:Int) (I:aU a) (J:aU b):Fz F.qJ [.sl 1 (E cC a),.sl 1 (E cC b),.agg (cFd fr to)] (.tup [twV fr to a b a,twV fr to a b b,.v (.int .i64 (iQ fr to [a,b]))]):=by
 have Y:=aF0 fr to a b;cases da:bB a
 ·refine fn0 Cd.s_l09Two_k fun X=>?_
  repeat' first|simp -dsimp only[go_sem,cFd,da]|apply Br.mk<;>intro h<;>try simp -dsimp only[h]|refine aD.c (by first|exact dD a I.2 I.1|exact dD b J.2 J.1) ?_|refine aC ?_|fail
  all_goals simp_all [twV]
 cases db:bB b
 ·refine fn0 Cd.s_l09Two_k fun X=>?_
  repeat' first|simp -dsimp only[go_sem,cFd,da,db]|apply Br.mk<;>intro h<;>try simp -dsimp only[h]|refine aD.c (by first|exact dD a I.2 I.1|exact dD b J.2 J.1) ?_|refine aC ?_|fail
  all_goals simp_all [twV]
 cases fa:d9 fr to (bD a)
 ·refine fn0 Cd.s_l09Two_k fun X=>?_
  repeat' first|simp -dsimp only[go_sem,cFd,da,db,fa]|apply Br.mk<;>intro h<;>try simp -dsimp only[h]|refine aD.c (by first|exact dD a I.2 I.1|exact dD b J.2 J.1|exact dK a|exact dK b|exact dX fr to (bD a)|exact dX fr to (bD b)) ?_|refine aC ?_|fail
  all_goals simp_all [twV]
 cases fb:d9 fr to (bD b)
 ·refine fn0 Cd.s_l09Two_k fun X=>?_
  repeat' first|simp -dsimp only[go_sem,cFd,da,db,fa,fb]|apply Br.mk<;>intro h<;>try simp -dsimp only[h]|refine aD.c (by first|exact dD a I.2 I.1|exact dD b J.2 J.1|exact dK a|exact dK b|exact dX fr to (bD a)|exact dX fr to (bD b)) ?_|refine aC ?_|fail
  all_goals simp_all [twV]
 have O:aX fr to a=if bP fr to a then 0 else 8:=by unfold aX;rw[da,fa];rfl
 have U:aX fr to b=if bP fr to b then 0 else 8:=by unfold aX;rw[db,fb];rfl
 cases ca:bP fr to a<;>cases cb:bP fr to b
 ·have G:aX fr to a=_:=O;have H:aX fr to b=_:=U;rw[ca] at G;rw[cb] at H;simp only[if_true,if_false,Bool.false_eq_true] at G H;have L:=jP a fr to I.2 I.1;have M:=jP b fr to J.2 J.1;simp only[gK,G,H,if_true,if_false,Int.reduceEq] at L M;refine fn0 Cd.s_l09Two_k fun X=>?_;simp -dsimp only[go_sem,cFd,da,db,fa,fb]
  repeat' first|simp -dsimp only[go_sem,cFd,da,db,fa,fb,G,H]|apply Br.mk<;>intro h<;>try simp -dsimp only[h]|refine aD.c (by first|exact dD a I.2 I.1|exact dD b J.2 J.1|exact dK a|exact dK b|exact dX fr to (bD a)|exact dX fr to (bD b)|exact L|exact M) ?_|refine aC ?_|fail
  all_goals simp_all [twV,gK]
 ·have G:aX fr to a=_:=O;have H:aX fr to b=_:=U;rw[ca] at G;rw[cb] at H;simp only[if_true,if_false,Bool.false_eq_true] at G H;have L:=jP a fr to I.2 I.1;have M:=jP b fr to J.2 J.1;simp only[gK,G,H,if_true,if_false,Int.reduceEq] at L M;refine fn0 Cd.s_l09Two_k fun X=>?_;simp -dsimp only[go_sem,cFd,da,db,fa,fb]
  repeat' first|simp -dsimp only[go_sem,cFd,da,db,fa,fb,G,H]|apply Br.mk<;>intro h<;>try simp -dsimp only[h]|refine aD.c (by first|exact dD a I.2 I.1|exact dD b J.2 J.1|exact dK a|exact dK b|exact dX fr to (bD a)|exact dX fr to (bD b)|exact L|exact M) ?_|refine aC ?_|fail
  all_goals simp_all [twV,gK]
 ·have G:aX fr to a=_:=O;have H:aX fr to b=_:=U;rw[ca] at G;rw[cb] at H;simp only[if_true,if_false,Bool.false_eq_true] at G H;have L:=jP a fr to I.2 I.1;have M:=jP b fr to J.2 J.1;simp only[gK,G,H,if_true,if_false,Int.reduceEq] at L M;refine fn0 Cd.s_l09Two_k fun X=>?_;simp -dsimp only[go_sem,cFd,da,db,fa,fb]
  repeat' first|simp -dsimp only[go_sem,cFd,da,db,fa,fb,G,H]|apply Br.mk<;>intro h<;>try simp -dsimp only[h]|refine aD.c (by first|exact dD a I.2 I.1|exact dD b J.2 J.1|exact dK a|exact dK b|exact dX fr to (bD a)|exact dX fr to (bD b)|exact L|exact M) ?_|refine aC ?_|fail
  all_goals simp_all [twV,gK]
 ·have G:aX fr to a=_:=O;have H:aX fr to b=_:=U;rw[ca] at G;rw[cb] at H;simp only[if_true,if_false,Bool.false_eq_true] at G H;have L:=jP a fr to I.2 I.1;have M:=jP b fr to J.2 J.1;simp only[gK,G,H,if_true,if_false,Int.reduceEq] at L M;refine fn0 Cd.s_l09Two_k fun X=>?_;simp -dsimp only[go_sem,cFd,da,db,fa,fb]
  repeat' first|simp -dsimp only[go_sem,cFd,da,db,fa,fb,G,H]|apply Br.mk<;>intro h<;>try simp -dsimp only[h]|refine aD.c (by first|exact dD a I.2 I.1|exact dD b J.2 J.1|exact dK a|exact dK b|exact dX fr to (bD a)|exact dX fr to (bD b)|exact L|exact M) ?_|refine aC ?_|fail
  all_goals simp_all [twV,gK]
theorem vH (a b:List (List Int)) (fr to:Int) (H:aU a) (I:aU b):Fz F.mF [.sl 1 (E cC a),.sl 1 (E cC b),.agg (cFd fr to)] (.tup [mtV fr to a b,.v (.int .i64 (mtC fr to a b))]):=by
 by_cases G:iQ fr to [a,b]=0
 rotate_left
 ·have e1:(iQ fr to [a,b] != 0)=true:=by simp[G]
  refine fn0 Cd.s_MatchDecks_k fun X=>?_
  repeat' first|simp -dsimp only[go_sem,cFd,e1]|apply Br.mk<;>intro h<;>try simp -dsimp only[h]|refine aD.c (by first|exact aDJ a b fr to H I) ?_|refine aC ?_|fail
  all_goals simp[mtV,mtC,G]
 obtain⟨⟨da,db⟩,⟨fa,fb⟩,J,L⟩:=aBw G;have M:=dV da fa;have O:=dV db fb;have va:twV fr to a b a=.sl 1 (E cSt (bO fr to a)):=by simp[twV,G]
 have vb:twV fr to a b b=.sl 1 (E cSt (bO fr to b)):=by simp[twV,G]
 have U:=dC fr to a;have Y:=dC fr to b
 have CC:Fz F.qJ [.sl 1 (E cC a),.sl 1 (E cC b),.agg (cFd fr to)] (.tup [.sl 1 (E cSt (bO fr to a)),.sl 1 (E cSt (bO fr to b)),.v (.int .i64 0)]):=by
  have h:=aDJ a b fr to H I;rw[va,vb,G] at h;exact h
 cases hs:gQ fr to a&&gQ fr to b
 ·refine fn0 Cd.s_MatchDecks_k fun X=>?_
  repeat' first|simp -dsimp only[go_sem,cFd,U,Y]|apply Br.mk<;>intro h<;>try simp -dsimp only[h]|refine aD.c (by first|exact CC|exact bW a fr to M J H.1|exact bW b fr to O L I.1) ?_|refine aC ?_|fail
  all_goals first|(simp_all [mtV,mtC];done)|(refine aV ?_;simp_all [mtV,mtC];done)
 have h1:gQ fr to a=true:=by simp only[Bool.and_eq_true] at hs;exact hs.1
 have h2:gQ fr to b=true:=by simp only[Bool.and_eq_true] at hs;exact hs.2
 rw[h1] at U;rw[h2] at Y;refine fn0 Cd.s_MatchDecks_k fun X=>?_;simp -dsimp only[go_sem,cFd,U,Y]
 repeat' first|simp -dsimp only[go_sem,cFd,U,Y,Bool.not_true,Bool.or_false,Bool.false_or,List.take_succ_cons,List.take_zero,List.drop_succ_cons,List.drop_zero]|apply Br.mk<;>intro h<;>try simp -dsimp only[h]|refine aD.c (by first|exact CC|exact bW a fr to M J H.1|exact bW b fr to O L I.1|exact aEL a b fr to H I.1 M O J L|exact aEL b a fr to I H.1 O M L J) ?_|refine aC ?_|fail
 all_goals (have hz:mtC fr to a b=0:=by simp[mtC,G,hs]
            have hv:mtV fr to a b=.sl 1 (E cD (mtL fr to a b)):=by simp[mtV,hz]
            rw[hz,hv]
            first|exact⟨_,_,rfl,rfl⟩|(refine aV rfl)|trace_state)
end
section
variable [Vs.Envs]
attribute [local irreducible] Vs.Fn chOK areCh chTo chAt l03 chB rk cd3 chI stp stpTo stb mJ
theorem aGN (l:List Int) (G:l.length≤1048576):Vs.Fn Tryz.prog F.oG [] [.sl 1 (E cI l)] (.loc (.b 0) 0 l.length) [some (.arr 1 (E cI l) false)]:=by
 refine fn1 Cd.s_l00Own_k [.t 5 0] [.arr 1 (E cI l) false] fun X=>?_;unfold Cd.oG
 repeat' first|simp -dsimp only[go_sem,aI,List.flatMap_cons,List.flatMap_nil,bI,dF,bH,List.getD_cons_zero,List.append_nil,List.nil_append,List.cons_append]|apply Br.mk<;>intro h<;>try simp -dsimp only[h]|refine aC ?_|fail
 all_goals first|exact⟨_,_,rfl,rfl⟩
def uH (cf:Int→Int→Int) (i:Int) (o:List Int):Nat→Nat
 |0=>0
 |k+1=>if cf i (o.getD k 0)<0 then uH cf i o k else k+1
theorem aHQ (cf:Int→Int→Int) (i:Int) (o:List Int):uH cf i o 0=0:=rfl
theorem aAK (cf:Int→Int→Int) (i:Int) (o:List Int) (k:Nat):uH cf i o (k+1)=if cf i (o.getD k 0)<0 then uH cf i o k else k+1:=rfl
theorem aDU (cf:Int→Int→Int) (i:Int) (o:List Int):∀k,uH cf i o k≤k
 |0=>Nat.le_refl _
 | k+1=>by
  rw[uH];split
  ·exact Nat.le_succ_of_le (aDU cf i o k)
  ·exact Nat.le_refl _
def eP (cf:Int→Int→Int):Nat→List Int
 |0=>[]
 |n+1=>(eP cf n).take (uH cf n (eP cf n) (eP cf n).length)++[(n:Int)]++(eP cf n).drop (uH cf n (eP cf n) (eP cf n).length)
theorem tC (cf:Int→Int→Int):∀n,(eP cf n).Perm (iota n)
 |0=>List.Perm.refl _
 | n+1=>by
  rw[eP,aCS];generalize uH cf n (eP cf n) (eP cf n).length=k
  have F:((eP cf n).take k++[(n:Int)]++(eP cf n).drop k).Perm ((eP cf n).take k++(eP cf n).drop k++[(n:Int)]):=by
   rw[List.append_assoc,List.append_assoc];exact List.Perm.append_left _ List.perm_append_comm
  rw[List.take_append_drop] at F;exact F.trans (List.Perm.append_right _ (tC cf n))
theorem aBN (cf:Int→Int→Int) (n:Nat):(eP cf n).length=n:=by rw[(tC cf n).length_eq,mP]
end
section
variable [Vs.Envs]
attribute [local irreducible] Vs.Fn chOK areCh chTo chAt l03 chB rk cd3 chI stp stpTo stb mJ eP uH
theorem aI5 {fr to:Int}{l:List (List Int)}{x:Int} (h:inO l.length x):(E cSt (bO fr to l)).getD x.toNat []=[.v (.string (txt (fH fr to (l.getD x.toNat []))))]:=by
 have hlt:x.toNat<l.length:=by have:=h.1;have:=h.2;omega
 rw[aS (by simpa[bO] using hlt)];simp[cSt,bO,List.getD,hlt]
attribute [local go_sem] aI List.mem_singleton List.mem_cons List.not_mem_nil or_false false_or Vs.Name.t.injEq List.flatMap_cons List.flatMap_nil bI dF bH List.getD_cons_zero List.append_nil List.nil_append List.cons_append in
theorem aHF (l:List (List Int)) (fr to:Int) (ho:∀c,c∈l→okF fr to c) (hall:bP fr to l=true) (hl:l.length≤40):Fz F.oF [.sl 1 (E cSt (bO fr to l))] (.sl 1 (E cI (eP (cfO fr to l) l.length))):=by
 have hkl:(E cSt (bO fr to l)).length=l.length:=by rw[aI];simp[bO]
 have hch:∀x,inO l.length x→bY (fH fr to (l.getD x.toNat []))=true:=fun x hx=>List.all_eq_true.1 hall _ (mK hx)
 have hcp:∀x y,inO l.length x→inO l.length y→Fz F.eZ [.v (.string (txt (fH fr to (l.getD x.toNat [])))),.v (.string (txt (fH fr to (l.getD y.toNat []))))] (.v (.int .i64 (cfO fr to l x y))):=fun x y hx hy =>
  uW _ _ (aAl (ho _ (mK hx))) (by rw[pK ho hx,pK ho hy]) (hch x hx) (hch y hy)
 have hke:∀x,inO l.length x→(E cSt (bO fr to l)).getD x.toNat []=[.v (.string (txt (fH fr to (l.getD x.toNat []))))]:=fun x hx=>aI5 hx;generalize E cSt (bO fr to l)=K at *
 generalize cfO fr to l=cf at *
 refine fn0 Cd.s_l07Places_k fun X=>?_
 repeat' first|simp -dsimp only[go_sem,List.length_take,List.length_drop,hkl]|apply Br.mk<;>intro h<;>try simp -dsimp only[h]|refine aC ?_|fail
 refine aN.at dM (X:={zz:Nat×(Unit) // zz.1≤l.length∧True}) (fun zz=>[(3,.loc (.t 3 0) 0 zz.1.1),(4,.v (.int .i64 zz.1.1))]) (fun zz=>[(.t 3 0,.arr 1 (E cI (eP cf zz.1.1)) false)]) (fun zz=>l.length-zz.1.1) ⟨(0,()),by omega,trivial⟩ ?_ ?_
 ·simp[Vs.LeL,Vs.look,Vs.aB,Vs.aQ,Vs.aL,Vs.hset,Vs.aM,Vs.E,eP]
 ·rintro⟨⟨i,_⟩,hi,hg⟩;dsimp only at hi hg;simp -dsimp only[go_sem,List.length_take,List.length_drop,hkl];refine Br.mk (fun hc=>?_) fun hc=>?_
  ·have hlt:i<l.length:=Dq;have hw:=aH hlt (by omega);have hpl:=aBN cf i
   have hpi:∀k,k<i→inO l.length ((eP cf i).getD k 0):=fun k hk=>by
    have h1:=aBs _ ((tC cf i).mem_iff.1 (eQ (by omega:k<(eP cf i).length)));exact⟨h1.1,by have:=h1.2;omega⟩
   have hii:inO l.length (i:Int):=⟨by omega,by omega⟩;have hki:=hke _ hii;rw[Int.toNat_natCast] at hki;have hps:eP cf (i+1)=(eP cf i).take (uH cf i (eP cf i) (eP cf i).length)++[(i:Int)]++(eP cf i).drop (uH cf i (eP cf i) (eP cf i).length):=by rw[eP]
   rw[hpl] at hps;have hdl:=aDU cf i (eP cf i) i;generalize eP cf i=o at *
   generalize hd:uH cf i o i=d at *
   simp -dsimp only[go_sem,hkl,hw,List.length_take,List.length_drop];refine aN.at dM (X:={k:Nat // k≤i∧uH cf i o k=d}) (fun k=>[(5,.v (.int .i64 (k.1:Nat)))]) (fun k=>[]) (fun k=>k.1) ⟨i,Nat.le_refl _,hd⟩ ?_ ?_
   ·exact le0
   ·rintro⟨k,hk,hkd⟩
    try dsimp only at hk hkd
    match k,hk,hkd with
    | 0,hk,hkd =>
     have e1:decide (((0:Nat):Int)>0)=false:=rfl;obtain rfl:d=0:=by rw[←hkd,aHQ]
     simp -dsimp only[go_sem,e1,List.length_take,List.length_drop];have htk:(E cI o).take (0)=E cI (o.take (0)):=by simp[E,List.map_take]
     have hdk:((E cI o).drop (0)).take (i-(0))=E cI (o.drop (0)):=by rw[List.take_of_length_le (by rw[List.length_drop,aI];omega)];simp[E,List.map_drop]
     have hlt2:(o.take (0)).length=0:=by first|(simp;done)|(simp;omega)
     have hdl2:(o.drop (0)).length=i-(0):=by rw[List.length_drop,hpl]
     have OW:=aGN (o.take (0)) (by omega);rw[hlt2] at OW;have hap:E cI (o.take (0))++[[.v (.int .i64 (i:Int))]]=E cI (o.take (0)++[(i:Int)]):=by rw[aY];rfl
     have hfin:E cI (o.take (0)++[(i:Int)])++E cI (o.drop (0))=E cI (eP cf (i+1)):=by simp only[hps,aY]
     have hz:((((0:Nat):Int))-0).toNat=0:=by omega
     have hz2:((i:Int)-((0:Nat):Int)).toNat=i-(0):=by omega
     have hz3:(((0:Nat):Int)).toNat=0:=by omega
     have hfb:∀b,some b∈[some (Blk.arr 1 (E cI (o.take (0))) false)]→Vs.iF b:=by
      intro b hb;simp only[List.mem_singleton,Option.some.injEq] at hb;subst hb;exact aDR (fun x=>rfl)
     refine RgK.mk rfl ?_;simp -dsimp only[go_sem,htk,hdk,hap,hfin,hw,hpl,hkl,e1,List.length_take,List.length_drop];refine⟨⟨⟨by omega,by omega,by omega⟩,?_⟩,fun h=>absurd rfl h⟩;simp only[hz,List.take_zero];refine aD.lend OW rfl hfb rfl ?_;have hf0:[AV.v (.int .i64 (i:Int))]::E cI o=E cI (eP cf (i+1)):=by simp only[hps];rfl
     have hnil:E cI []=[]:=rfl;have hta:(E cI o).take i=E cI o:=List.take_of_length_le (by rw[aI];omega);clear htk hdk hap hfin;simp -dsimp only[go_sem,hz,hz2,hz3,Nat.sub_zero,List.take_zero,List.replicate_succ,List.replicate_zero,List.flatten_cons,List.flatten_nil,List.set_cons_zero,List.length_cons,List.length_nil,List.length_append,hf0,hnil,hta,hw,hpl,hkl,e1,List.length_take,List.length_drop]
     repeat' (refine aC ?_)
     have hsum:1+i=i+1:=by omega
     first
      |exact⟨⟨(i+1,()),by first|omega|exact⟨by omega,trivial⟩,trivial⟩,by simp[Vs.LeL,Vs.look,Vs.aB,Vs.aQ,Vs.aL,Vs.hset,Vs.aM,hsum],by simp only;omega⟩

    | k+1,hk,hkd =>
     have e1:decide (((k+1:Nat):Int)>0)=true:=by first|(simp;done)|(simp;omega)
     have w1:IntKind.i64.wrap (((k+1:Nat):Int)-1)=(k:Int):=by rw[aP (by omega) (by omega)];omega
     have hj:=hpi k (by omega);have hj0:=hj.1;have hj1:=hj.2;have hkj:=hke _ hj;have hoj:(E cI o).getD k []=[.v (.int .i64 (o.getD k 0))]:=gP (by omega);have HC:=hcp _ _ hii hj;rw[Int.toNat_natCast] at HC;rw[aAK] at hkd;by_cases hneg:cf i (o.getD k 0)<0
     ·have e2:decide (cf i (o.getD k 0)<0)=true:=decide_eq_true hneg;rw[if_pos hneg] at hkd;simp -dsimp only[go_sem,e1,e2,List.length_take,List.length_drop]
      repeat' first|simp -dsimp only[go_sem,e1,e2,w1,hkj,hki,hoj,hkl,hpl,List.length_take,List.length_drop]|apply Br.mk<;>intro h<;>try simp -dsimp only[h]|refine aD.c (by first|exact HC) ?_|refine aC ?_|fail
      all_goals first|(exact⟨⟨k,by omega,hkd⟩,by simp[Vs.LeL,Vs.look,Vs.aB,Vs.aQ,Vs.aL,Vs.hset,Vs.aM],by simp only;omega⟩)|omega
     ·have e2:decide (cf i (o.getD k 0)<0)=false:=decide_eq_false hneg;rw[if_neg hneg] at hkd;obtain rfl:d=k+1:=hkd.symm;simp -dsimp only[go_sem,e1,e2,List.length_take,List.length_drop];have htk:(E cI o).take (k+1)=E cI (o.take (k+1)):=by simp[E,List.map_take]
      have hdk:((E cI o).drop (k+1)).take (i-(k+1))=E cI (o.drop (k+1)):=by rw[List.take_of_length_le (by rw[List.length_drop,aI];omega)];simp[E,List.map_drop]
      have hlt2:(o.take (k+1)).length=k+1:=by first|(simp;done)|(simp;omega)
      have hdl2:(o.drop (k+1)).length=i-(k+1):=by rw[List.length_drop,hpl]
      have OW:=aGN (o.take (k+1)) (by omega);rw[hlt2] at OW;have hap:E cI (o.take (k+1))++[[.v (.int .i64 (i:Int))]]=E cI (o.take (k+1)++[(i:Int)]):=by rw[aY];rfl
      have hfin:E cI (o.take (k+1)++[(i:Int)])++E cI (o.drop (k+1))=E cI (eP cf (i+1)):=by simp only[hps,aY]
      have hz:((((k+1:Nat):Int))-0).toNat=k+1:=by omega
      have hz2:((i:Int)-((k+1:Nat):Int)).toNat=i-(k+1):=by omega
      have hz3:(((k+1:Nat):Int)).toNat=k+1:=by omega
      have hfb:∀b,some b∈[some (Blk.arr 1 (E cI (o.take (k+1))) false)]→Vs.iF b:=by
       intro b hb;simp only[List.mem_singleton,Option.some.injEq] at hb;subst hb;exact aDR (fun x=>rfl)
      refine RgK.mk rfl ?_;simp -dsimp only[go_sem,htk,hdk,hap,hfin,hw,hpl,hkl,e1,e2,w1,hj0,hj1,hkj,hki,hoj,List.length_take,List.length_drop];refine⟨⟨by omega,by omega⟩,⟨by omega,by omega⟩,aD.flat HC rfl ?_⟩;simp -dsimp only[go_sem,htk,hdk,hap,hfin,hw,hpl,hkl,e1,e2,w1,hj0,hj1,hkj,hki,hoj,List.length_take,List.length_drop];refine⟨⟨⟨by omega,by omega,by omega⟩,?_⟩,fun h=>absurd rfl h⟩;simp only[hz,htk];refine aD.lend OW rfl hfb rfl ?_;simp -dsimp only[go_sem,hz,hz2,hz3,Nat.sub_zero,List.take_zero,List.replicate_succ,List.replicate_zero,List.flatten_cons,List.flatten_nil,List.set_cons_zero,List.length_cons,List.length_nil,List.length_append,htk,hdk,hap,hfin,hlt2,hdl2,hw,hpl,hkl]
      repeat' (refine aC ?_)
      have hsum:k+1+1+(i-(k+1))=i+1:=by omega
      first
       |exact⟨⟨(i+1,()),by first|omega|exact⟨by omega,trivial⟩,trivial⟩,by simp[Vs.LeL,Vs.look,Vs.aB,Vs.aQ,Vs.aL,Vs.hset,Vs.aM,hsum],by simp only;omega⟩

  ·have hge:i=l.length:=by
    have:¬i<l.length:=Dq;omega
   subst hge;simp -dsimp only[go_sem,List.length_take,List.length_drop,hkl];have hpl:=aBN cf l.length;have htk:(E cI (eP cf l.length)).take l.length=E cI (eP cf l.length):=List.take_of_length_le (by rw[aI];omega)
   first|exact⟨⟨_,_,rfl,rfl⟩,fun h=>h rfl⟩|(rw[htk];exact⟨⟨_,_,rfl,rfl⟩,fun h=>h rfl⟩)|(simp[htk];done)
end
section
variable [Vs.Envs]
attribute [local irreducible] Vs.Fn chOK areCh chTo chAt l03 chB rk cd3 chI stp stpTo
theorem aGU (cf:Int→Int→Int) (i:Int) (o:List Int):∀K k,uH cf i o K≤k→k<K→cf i (o.getD k 0)<0
 |0,k,_,h=>by omega
 | K+1,k,h1,h2=>by
  rw[aAK] at h1;split at h1
  ·rename_i G;by_cases F:k=K
   ·subst F;exact G
   ·exact aGU cf i o K k h1 (by omega)
  ·omega
theorem aGT (cf:Int→Int→Int) (i:Int) (o:List Int):∀K,0<uH cf i o K→¬cf i (o.getD (uH cf i o K-1) 0)<0
 |0,h=>by simp[uH] at h
 | K+1,h=>by
  rw[aAK] at h⊢;split
  ·rename_i F;rw[if_pos F] at h;exact aGT cf i o K h
  ·rename_i F;exact F
theorem aEt {fr to:Int}{l:List (List Int)} (ho:∀c,c∈l→okF fr to c):∀n,n≤l.length→(eP (cfO fr to l) n).Pairwise (wD fr to l)
 |0,_=>List.Pairwise.nil
 | n+1,h=>by
  have ih:=aEt ho n (by omega);have hin:∀x,x∈eP (cfO fr to l) n→inO n x:=fun x I=>aBs x ((tC _ n).mem_iff.1 I);have hf:=aBN (cfO fr to l) n;rw[eP];have Y:=aGU (cfO fr to l) n (eP (cfO fr to l) n) (eP (cfO fr to l) n).length;have hd:=aGT (cfO fr to l) n (eP (cfO fr to l) n) (eP (cfO fr to l) n).length;have hk:=aDU (cfO fr to l) n (eP (cfO fr to l) n) (eP (cfO fr to l) n).length;generalize uH (cfO fr to l) n (eP (cfO fr to l) n) (eP (cfO fr to l) n).length=d at *
  generalize eP (cfO fr to l) n=o at *
  have hn:inO l.length (n:Int):=⟨by omega,by omega⟩;have H:∀x,inO n x→inO l.length x:=fun x I=>⟨I.1,by have:=I.2;omega⟩
  have U:∀y,y∈o.drop d→wD fr to l n y:=by
   intro y hy;obtain⟨j,hj,rfl⟩:=List.mem_iff_getElem.1 hy;rw[List.length_drop] at hj;rw[List.getElem_drop];have hm:o[d+j]∈o:=List.getElem_mem _;have L:=Y (d+j) (by omega) (by omega);have e:o.getD (d+j) 0=o[d+j]:=by simp[List.getD,(by omega:d+j<o.length)]
   rw[e] at L;exact⟨⟨hn,H _ (hin _ hm)⟩,.inl L⟩
  have hlt:∀x,x∈o.take d→wD fr to l x n:=by
   intro x I;obtain⟨j,hj,rfl⟩:=List.mem_take_iff_getElem.1 I;have hg:j<d:=by omega
   have J:d-1<o.length:=by omega
   have L:=hd (by omega);have e:o.getD (d-1) 0=o[d-1]:=by simp[List.getD,J]
   rw[e] at L;have hm:o[d-1]∈o:=List.getElem_mem _;have G:=hin _ hm;have O:=aBx ho hn (H _ G)
   have F:wD fr to l o[d-1] n:=by
    refine⟨⟨H _ G,hn⟩,?_⟩;by_cases h0:cfO fr to l o[d-1] n=0
    ·exact .inr ⟨h0,G.2⟩
    ·exact .inl (by omega)
   by_cases hc:j=d-1
   ·subst hc;exact F
   ·exact lH ho _ _ _ (List.pairwise_iff_getElem.1 ih j (d-1) (by omega) J (by omega)) F
  have he:(o.take d++o.drop d).Pairwise (wD fr to l):=by rw[List.take_append_drop];exact ih
  obtain⟨p1,p2,p3⟩:=List.pairwise_append.1 he;rw[List.append_assoc,List.pairwise_append];refine⟨p1,?_,?_⟩
  ·rw[List.singleton_append,List.pairwise_cons];exact⟨U,p2⟩
  ·intro a O b M;rw[List.singleton_append,List.mem_cons] at M;rcases M with rfl|M
   ·exact hlt a O
   ·exact p3 a O b M
theorem aKe {fr to:Int}{l:List (List Int)} (F:∀c,c∈l→okF fr to c) (H:l.length≤40):eP (cfO fr to l) l.length=mJ fr to l:=by
 obtain⟨G,h2⟩:=aBP F H;exact aDq (lH F) (aAA F) ((tC _ _).trans G.symm) (aEt F _ (Nat.le_refl _)) h2
end
section
variable [Vs.Envs]
attribute [local irreducible] Vs.Fn chOK areCh chTo chAt l03 chB rk cd3 chI stp stpTo stb mJ eP uH
attribute [local go_sem] aI List.replicate_succ List.replicate_zero List.flatten_cons List.flatten_nil List.cons_append List.nil_append List.set_cons_zero List.set_cons_succ List.length_cons List.length_nil List.length_set
theorem aIi (l:List (List Int)) (fr to:Int) (M:∀x,x∈l→x.length≤1048576) (L:l.length≤1048576):Fz F.rD [.sl 1 (E cC l),.agg (cFd fr to)] (.v (.int .i64 (aX fr to l))):=by
 have H:=lM l M L;have I:=gN l;have G:=uY fr to (bD l);cases hd:bB l
 ·rw[hd] at H;rw[show aX fr to l=1 by simp[aX,hd]];refine fn0 Cd.i_sortCode_k fun X=>?_
  repeat' first|simp -dsimp only[go_sem,cC,cFd]|apply Br.mk<;>intro h<;>try simp -dsimp only[h]|refine aD.c (by first|exact H|exact I|exact G) ?_|refine aC ?_|fail
  all_goals first|exact⟨_,_,rfl,rfl⟩|simp
 rw[hd] at H;cases hf:d9 fr to (bD l)
 ·rw[hf] at G;rw[show aX fr to l=2 by simp[aX,hd,hf]];refine fn0 Cd.i_sortCode_k fun X=>?_
  repeat' first|simp -dsimp only[go_sem,cC,cFd]|apply Br.mk<;>intro h<;>try simp -dsimp only[h]|refine aD.c (by first|exact H|exact I|exact G) ?_|refine aC ?_|fail
  all_goals first|exact⟨_,_,rfl,rfl⟩|simp
 rw[hf] at G;have J:=nU l fr to (dV hd hf) L;cases ha:bP fr to l
 ·rw[ha] at J;rw[show aX fr to l=8 by simp[aX,hd,hf,ha]];refine fn0 Cd.i_sortCode_k fun X=>?_
  repeat' first|simp -dsimp only[go_sem,cC,cFd]|apply Br.mk<;>intro h<;>try simp -dsimp only[h]|refine aD.c (by first|exact H|exact I|exact G|exact J) ?_|refine aC ?_|fail
  all_goals first|exact⟨_,_,rfl,rfl⟩|simp
 rw[ha] at J;rw[show aX fr to l=0 by simp[aX,hd,hf,ha]];refine fn0 Cd.i_sortCode_k fun X=>?_
 repeat' first|simp -dsimp only[go_sem,cC,cFd]|apply Br.mk<;>intro h<;>try simp -dsimp only[h]|refine aD.c (by first|exact H|exact I|exact G|exact J) ?_|refine aC ?_|fail
 all_goals first|exact⟨_,_,rfl,rfl⟩|simp
def oZ (fr to:Int) (l:List (List Int)):AV:=if aX fr to l=0 then .sl 1 (E cC (eH fr to l)) else .v (.slice none 0 0)
theorem aBr {fr to:Int}{l:List (List Int)} (h:aX fr to l=0):bB l=true∧d9 fr to (bD l)=true∧bP fr to l=true:=by
 unfold aX at h;cases hd:bB l<;>cases hf:d9 fr to (bD l)<;>cases ha:bP fr to l<;>simp[hd,hf,ha] at h⊢
theorem kK {l:List (List Int)} (h:bB l=true):l.length≤40:=by
 simp only[bB,Bool.and_eq_true,decide_eq_true_eq] at h;exact h.2
theorem aCw (l:List (List Int)) (fr to:Int) (U:∀x,x∈l→x.length≤1048576) (O:l.length≤1048576):Fz F.rH [.sl 1 (E cC l),.agg (cFd fr to)] (.tup [oZ fr to l,.v (.int .i64 (aX fr to l))]):=by
 have H:=aIi l fr to U O;by_cases G:aX fr to l=0
 ·obtain⟨I,M,Y⟩:=aBr G;have J:=zD l fr to (dV I M) (kK I);rw[show oZ fr to l=.sl 1 (E cC (eH fr to l)) by simp[oZ,G],G];rw[G] at H;refine fn0 Cd.i_SortedBy_k fun X=>?_
  repeat' first|simp -dsimp only[go_sem,cC,cFd]|apply Br.mk<;>intro h<;>try simp -dsimp only[h]|refine aD.c (by first|exact H|exact J) ?_|refine aC ?_|fail
  all_goals first|exact⟨_,_,rfl,rfl⟩|simp
 ·have L:(aX fr to l != 0)=true:=by simp[G]
  rw[show oZ fr to l=.v (.slice none 0 0) by simp[oZ,G]];generalize aX fr to l=c at *
  refine fn0 Cd.i_SortedBy_k fun X=>?_
  repeat' first|simp -dsimp only[go_sem,cC,cFd,L]|apply Br.mk<;>intro h<;>try simp -dsimp only[h]|refine aD.c (by first|exact H) ?_|refine aC ?_|fail
  all_goals first|exact⟨_,_,rfl,rfl⟩|simp
theorem yA (l:List (List Int)) (fr to:Int) (hs:∀x,x∈l→x.length≤1048576) (hl:l.length≤1048576):Fz F.qN [.sl 1 (E cC l),.agg (cFd fr to)] (.tup [oZ fr to l,.v (.int .i64 (aX fr to l))]):=by
 have KS:=jP l fr to hs hl;by_cases h0:aX fr to l=0
 ·obtain⟨hd,hf,ha⟩:=aBr h0;have ho:=dV hd hf;have h40:=kK hd;have PL:=aHF l fr to ho ha h40;rw[aKe ho h40] at PL;rw[show oZ fr to l=.sl 1 (E cC (eH fr to l)) by simp[oZ,h0],h0];rw[show gK fr to l=.sl 1 (E cSt (bO fr to l)) by simp[gK,h0],h0] at KS;have hol:=wE fr to l;have hoi:=aDA ho h40;rw[show eH fr to l=(mJ fr to l).map (fun i=>l.getD i.toNat []) from rfl];generalize mJ fr to l=o at *
  refine fn0 Cd.s_SortedBy_k fun X=>?_
  repeat' first|simp -dsimp only[go_sem,cC,cFd]|apply Br.mk<;>intro h<;>try simp -dsimp only[h]|refine aD.c (by first|exact KS|exact PL) ?_|refine aC ?_|fail
  refine aN.at dM (X:={zz:Nat×(Unit) // zz.1≤o.length∧True}) (fun zz=>[(9,.loc (.t 9 0) 0 zz.1.1),(10,.v (.int .i64 zz.1.1))]) (fun zz=>[(.t 9 0,.arr 1 (E cC ((o.take zz.1.1).map fun i=>l.getD i.toNat [])) false)]) (fun zz=>o.length-zz.1.1) ⟨(0,()),by omega,trivial⟩ ?_ ?_
  ·simp[Vs.LeL,Vs.look,Vs.aB,Vs.aQ,Vs.aL,Vs.hset,Vs.aM,Vs.E]
  ·rintro⟨⟨i,_⟩,hi,hg⟩;dsimp only at hi hg;simp -dsimp only[go_sem,cC,cFd];refine Br.mk (fun hc=>?_) fun hc=>?_
   ·have hlt:i<o.length:=Dq;have hw:=aH hlt (by omega);have hx:=hoi _ (List.getElem_mem hlt);have gx:=aAR hx;have hm:=mK hx;have hc20:(l.getD o[i].toNat []).length≤20:=(ho _ hm).2.2.2;have NC:=wI (l.getD o[i].toNat []) (by omega);have x0:=hx.1;have x1:=hx.2
    have hap:E cC ((o.take i).map fun i=>l.getD i.toNat [])++[[.sl 1 (E cI (l.getD o[i].toNat []))]]=E cC ((o.take (i+1)).map fun i=>l.getD i.toNat []):=by
     rw[bJ hlt,List.map_append,aY];rfl
    have hal:(E cC ((o.take i).map fun i=>l.getD i.toNat [])).length=i:=by rw[aI];simp;omega
    repeat' first|simp -dsimp only[go_sem,cZ hlt,hw,hap,hal,gx,cC,cFd]|apply Br.mk<;>intro h<;>try simp -dsimp only[h]|refine aD.c (by first|exact NC) ?_|refine aC ?_|fail
    all_goals first|omega|(exact nx (i+1,()) trivial (h2:=by simp[Vs.LeL,Vs.look,Vs.aB,Vs.aQ,Vs.aL,Vs.hset,Vs.aM,hap]))
   ·have hge:i=o.length:=by
     have:¬i<o.length:=Dq;omega
    subst hge;simp -dsimp only[go_sem,cC,cFd]
    have htk:(E cC ((o.take o.length).map fun i=>l.getD i.toNat [])).take o.length=E cC (o.map fun i=>l.getD i.toNat []):=by
     rw[List.take_of_length_le (Nat.le_refl o.length)];exact List.take_of_length_le (by rw[aI];simp)
    first|exact⟨⟨_,_,rfl,rfl⟩,fun h=>h rfl⟩|(rw[htk];exact⟨⟨_,_,rfl,rfl⟩,fun h=>h rfl⟩)|(simp[htk];done)
 ·have e0:(aX fr to l != 0)=true:=by simp[h0]
  rw[show oZ fr to l=.v (.slice none 0 0) by simp[oZ,h0]];rw[show gK fr to l=.v (.slice none 0 0) by simp[gK,h0]] at KS;generalize aX fr to l=c at *
  refine fn0 Cd.s_SortedBy_k fun X=>?_
  repeat' first|simp -dsimp only[go_sem,cC,cFd,e0]|apply Br.mk<;>intro h<;>try simp -dsimp only[h]|refine aD.c (by first|exact KS) ?_|refine aC ?_|fail
  all_goals first|exact⟨_,_,rfl,rfl⟩|simp
end
section
variable [Vs.Envs]
attribute [local irreducible] Vs.Fn chOK areCh chTo chAt l03 chB rk cd3 chI stp stpTo
def bL (fr to:Int) (l:List (List Int)):Nat→List Int
 |0=>[]
 |i+1=>bL fr to l i++(if i=0∨cmF fr to (l.getD (i-1) []) (l.getD i [])≠0 then[(i:Int)] else[])
theorem rM (fr to:Int) (l:List (List Int)) (i:Nat):bL fr to l (i+1)=bL fr to l i++(if i=0∨cmF fr to (l.getD (i-1) []) (l.getD i [])≠0 then[(i:Int)] else[]):=rfl
theorem vB (fr to:Int) (l:List (List Int)):bL fr to l 0=[]:=rfl
theorem jJ (fr to:Int) (l:List (List Int)):∀i,(bL fr to l i).length≤i
 |0=>Nat.le_refl _
 | i+1=>by
  have:=jJ fr to l i;rw[rM,List.length_append];split<;>simp<;>omega
attribute [local irreducible] bL
attribute [local go_sem] aI List.replicate_succ List.replicate_zero List.flatten_cons List.flatten_nil List.cons_append List.nil_append List.set_cons_zero List.set_cons_succ List.length_cons List.length_nil List.length_set in
theorem aEU (l:List (List Int)) (fr to:Int) (ho:∀c,c∈l→okF fr to c) (hl:l.length≤1048576):Fz F.nS [.sl 1 (E cC l),.agg (cFd fr to)] (.sl 1 (E cI (bL fr to l l.length))):=by
 refine fn0 Cd.i_groupsOf_k fun X=>?_
 repeat' first|simp -dsimp only[go_sem,cC,cFd]|apply Br.mk<;>intro h<;>try simp -dsimp only[h]|refine aC ?_|fail
 refine aN.at dM (X:={zz:Nat×(Unit) // zz.1≤l.length∧True}) (fun zz=>[(5,.loc (.t 5 0) 0 (bL fr to l zz.1.1).length),(11,.v (.int .i64 zz.1.1))]) (fun zz=>[(.t 5 0,.arr 1 (E cI (bL fr to l zz.1.1)) false)]) (fun zz=>l.length-zz.1.1) ⟨(0,()),by omega,trivial⟩ ?_ ?_
 ·simp[Vs.LeL,Vs.look,Vs.aB,Vs.aQ,Vs.aL,Vs.hset,Vs.aM,Vs.E,vB]
 ·rintro⟨⟨i,_⟩,hi,hg⟩;dsimp only at hi hg;simp -dsimp only[go_sem,cC,cFd];refine Br.mk (fun hc=>?_) fun hc=>?_
  ·have hlt:i<l.length:=Dq;have hw:=aH hlt hl;have hgl:=jJ fr to l i;have gi:(E cC l).getD i []=[.sl 1 (E cI (l.getD i []))]:=by rw[aS hlt];simp[cC,List.getD,hlt]
   have hap:E cI (bL fr to l i)++[[.v (.int .i64 (i:Int))]]=E cI (bL fr to l i++[(i:Int)]):=by rw[aY];rfl
   have hal:(E cI (bL fr to l i)).length=(bL fr to l i).length:=aI ..
   have hgs:=rM fr to l i;by_cases h0:i=0
   ·subst h0;rw[if_pos (.inl rfl)] at hgs;have e0:(((0:Nat):Int)==0)=true:=rfl
    repeat' first|simp -dsimp only[go_sem,e0,hw,hap,hal,gi,cC,cFd]|apply Br.mk<;>intro h<;>try simp -dsimp only[h]|refine aC ?_|fail
    all_goals first|omega|(exact nx (0+1,()) trivial (h2:=by simp[Vs.LeL,Vs.look,Vs.aB,Vs.aQ,Vs.aL,Vs.hset,Vs.aM,hgs]))
   ·have e0:((i:Int)==0)=false:=by simp[h0]
    have w0:IntKind.i64.wrap ((i:Int)-1)=((i-1:Nat):Int):=by rw[aP (by omega) (by omega)];omega
    have hl1:i-1<l.length:=by omega
    have gj:(E cC l).getD (i-1) []=[.sl 1 (E cI (l.getD (i-1) []))]:=by rw[aS hl1];simp[cC,List.getD,hl1]
    have hmi:l.getD i []∈l:=by rw[show l.getD i []=l[i] by simp[List.getD,hlt]];exact List.getElem_mem hlt
    have hmj:l.getD (i-1) []∈l:=by rw[show l.getD (i-1) []=l[i-1] by simp[List.getD,hl1]];exact List.getElem_mem hl1
    have CF:=kZ (l.getD (i-1) []) (l.getD i []) fr to (ho _ hmj) (ho _ hmi);by_cases hc0:cmF fr to (l.getD (i-1) []) (l.getD i [])=0
    ·have e1:(cmF fr to (l.getD (i-1) []) (l.getD i []) != 0)=false:=by rw[hc0];rfl
     rw[if_neg (by rintro(h|h)<;>contradiction),List.append_nil] at hgs
     repeat' first|simp -dsimp only[go_sem,e0,e1,w0,hw,hap,hal,gi,gj,cC,cFd]|apply Br.mk<;>intro h<;>try simp -dsimp only[h]|refine aD.c (by first|exact CF) ?_|refine aC ?_|fail
     all_goals first|omega|(exact nx (i+1,()) trivial (h2:=by simp[Vs.LeL,Vs.look,Vs.aB,Vs.aQ,Vs.aL,Vs.hset,Vs.aM,hgs]))
    ·have e1:(cmF fr to (l.getD (i-1) []) (l.getD i []) != 0)=true:=bne_iff_ne.2 hc0;rw[if_pos (.inr hc0)] at hgs
     repeat' first|simp -dsimp only[go_sem,e0,e1,w0,hw,hap,hal,gi,gj,cC,cFd]|apply Br.mk<;>intro h<;>try simp -dsimp only[h]|refine aD.c (by first|exact CF) ?_|refine aC ?_|fail
     all_goals first|omega|(exact nx (i+1,()) trivial (h2:=by simp[Vs.LeL,Vs.look,Vs.aB,Vs.aQ,Vs.aL,Vs.hset,Vs.aM,hgs]))
  ·have hge:i=l.length:=by
    have:¬i<l.length:=Dq;omega
   subst hge;simp -dsimp only[go_sem,cC,cFd];have htk:(E cI (bL fr to l l.length)).take (bL fr to l l.length).length=E cI (bL fr to l l.length):=List.take_of_length_le (by rw[aI];exact Nat.le_refl _)
   first|exact⟨⟨_,_,rfl,rfl⟩,fun h=>h rfl⟩|(rw[htk];exact⟨⟨_,_,rfl,rfl⟩,fun h=>h rfl⟩)|(simp[htk];done)
end
section
variable [Vs.Envs]
attribute [local irreducible] Vs.Fn bL chOK areCh chTo chAt l03 chB rk cd3 chI stp stpTo
theorem uF {fr to:Int}{l:List (List Int)}:∀n x,x∈bL fr to l n→0≤x∧x<(n:Int)
 |0,x,h=>by rw[vB] at h;cases h
 | n+1,x,h=>by
  rw[rM] at h;rcases List.mem_append.1 h with h|h
  ·have:=uF n x h;omega
  ·split at h
   ·simp at h;subst h;omega
   ·cases h
theorem aAg {fr to:Int}{l:List (List Int)}:∀n,(bL fr to l n).Pairwise (· < ·)
 |0=>by rw[vB];exact List.Pairwise.nil
 | n+1=>by
  rw[rM,List.pairwise_append];refine⟨aAg n,by split<;>simp,fun a G b F=>?_⟩;have:=uF n a G;split at F
  ·simp at F;subst F;exact this.2
  ·cases F
def eT (l:List (List Int)) (s:List Int) (i:Nat):List (List Int):=(l.take (if i+1<s.length then(s.getD (i+1) 0).toNat else l.length)).drop (s.getD i 0).toNat
def aAh (fr to:Int) (l:List (List Int)):List (List (List Int)):=(List.range (bL fr to l l.length).length).map (eT l (bL fr to l l.length))
attribute [local irreducible] eT
attribute [local go_sem] aI List.replicate_succ List.replicate_zero List.flatten_cons List.flatten_nil List.cons_append List.nil_append List.set_cons_zero List.set_cons_succ List.length_cons List.length_nil List.length_set in
theorem groups (l:List (List Int)) (fr to:Int) (ho:∀c,c∈l→okF fr to c) (hl:l.length≤1048576):Fz F.wN [.sl 1 (E cC l),.agg (cFd fr to)] (.sl 1 (E cD (aAh fr to l))):=by
 have GO:=aEU l fr to ho hl;have SZ:=sizeC l;have hgl:=jJ fr to l l.length;have hin:=uF (fr:=fr) (to:=to) (l:=l) l.length;have hup:=aAg (fr:=fr) (to:=to) (l:=l) l.length;rw[show aAh fr to l=(List.range (bL fr to l l.length).length).map (eT l (bL fr to l l.length)) from rfl];generalize bL fr to l l.length=s at *
 refine fn0 Cd.i_groups_k fun X=>?_
 repeat' first|simp -dsimp only[go_sem,cC,cFd,cD]|apply Br.mk<;>intro h<;>try simp -dsimp only[h]|refine aD.c (by first|exact GO) ?_|refine aC ?_|fail
 refine aN.at dM (X:={zz:Nat×(Unit) // zz.1≤s.length∧True}) (fun zz=>[(5,.loc (.t 5 0) 0 zz.1.1),(16,.v (.int .i64 zz.1.1))]) (fun zz=>[(.t 5 0,.arr 1 (E cD ((List.range zz.1.1).map (eT l s))) false)]) (fun zz=>s.length-zz.1.1) ⟨(0,()),by omega,trivial⟩ ?_ ?_
 ·simp[Vs.LeL,Vs.look,Vs.aB,Vs.aQ,Vs.aL,Vs.hset,Vs.aM,Vs.E]
 ·rintro⟨⟨i,_⟩,hi,hg⟩;dsimp only at hi hg;simp -dsimp only[go_sem,cC,cFd,cD];refine Br.mk (fun hc=>?_) fun hc=>?_
  ·have hlt:i<s.length:=Dq;have hw:=aH hlt (by omega);have hs0:=hin _ (List.getElem_mem hlt);have e:s.getD i 0=s[i]:=by simp[List.getD,hlt]
   have hap:E cD ((List.range i).map (eT l s))++[[.sl 1 (E cC (eT l s i))]]=E cD ((List.range (i+1)).map (eT l s)):=by
    rw[List.range_succ,List.map_append,aY];rfl
   have hal:(E cD ((List.range i).map (eT l s))).length=i:=by rw[aI];simp
   have hiw:IntKind.i64.wrap ((i:Int)+1)=((i+1:Nat):Int):=hw;by_cases h1:i+1<s.length
   ·have e1:decide (((i+1:Nat):Int)<(s.length:Int))=true:=by simp;omega
    have hs1:=hin _ (List.getElem_mem h1);have hlt2:s[i]<s[i+1]:=List.pairwise_iff_getElem.1 hup i (i+1) hlt h1 (by omega)
    have hga:((E cC l).take s[i+1].toNat).drop s[i].toNat=E cC (eT l s i):=by
     unfold eT;rw[if_pos h1,e,show s.getD (i+1) 0=s[i+1] by simp[List.getD,h1]];simp[E,List.map_take,List.map_drop]
    simp -dsimp only[go_sem,cZ hlt,cZ h1,hw,e1,hal,cC,cFd,cD]
    repeat' first|simp -dsimp only[go_sem,cZ hlt,cZ h1,hw,e1,hap,hal,hga,cC,cFd,cD]|apply Br.mk<;>intro h<;>try simp -dsimp only[h]|refine aD.c (by first|exact SZ) ?_|refine aC ?_|fail
    all_goals first|omega|(exact nx (i+1,()) trivial (h2:=by simp[Vs.LeL,Vs.look,Vs.aB,Vs.aQ,Vs.aL,Vs.hset,Vs.aM,List.range_succ]))
   ·have e1:decide (((i+1:Nat):Int)<(s.length:Int))=false:=by simp;omega
    have hga:(E cC l).drop s[i].toNat=E cC (eT l s i):=by
     unfold eT;rw[if_neg h1,e,List.take_of_length_le (Nat.le_refl _)];simp[E,List.map_drop]
    simp -dsimp only[go_sem,cZ hlt,hw,e1,hal,cC,cFd,cD]
    repeat' first|simp -dsimp only[go_sem,cZ hlt,hw,e1,hap,hal,hga,cC,cFd,cD]|apply Br.mk<;>intro h<;>try simp -dsimp only[h]|refine aD.c (by first|exact SZ) ?_|refine aC ?_|fail
    all_goals first|omega|(exact nx (i+1,()) trivial (h2:=by simp[Vs.LeL,Vs.look,Vs.aB,Vs.aQ,Vs.aL,Vs.hset,Vs.aM,List.range_succ]))
  ·have hge:i=s.length:=by
    have:¬i<s.length:=Dq;omega
   subst hge;simp -dsimp only[go_sem,cC,cFd,cD];have htk:(E cD ((List.range s.length).map (eT l s))).take s.length=E cD ((List.range s.length).map (eT l s)):=List.take_of_length_le (by rw[aI];simp)
   first|exact⟨⟨_,_,rfl,rfl⟩,fun h=>h rfl⟩|(rw[htk];exact⟨⟨_,_,rfl,rfl⟩,fun h=>h rfl⟩)|(simp[htk];done)
end
section
variable [Vs.Envs]
attribute [local irreducible] Vs.Fn bL chOK areCh chTo chAt l03 chB rk cd3 chI stp stpTo
attribute [local go_sem] aI List.replicate_succ List.replicate_zero List.flatten_cons List.flatten_nil List.cons_append List.nil_append List.set_cons_zero List.set_cons_succ List.length_cons List.length_nil List.length_set in
theorem aCP (l:List (List Int)) (fr to:Int) (ho:∀c,c∈l→okF fr to c) (hall:bP fr to l=true) (hl:l.length≤1048576):Fz F.lQ [.sl 1 (E cSt (bO fr to l))] (.sl 1 (E cI (bL fr to l l.length))):=by
 have hkl:(E cSt (bO fr to l)).length=l.length:=by rw[aI];simp[bO]
 have hke:∀i:Nat,i<l.length→(E cSt (bO fr to l)).getD i []=[.v (.string (txt (fH fr to (l.getD i []))))]:=fun i hi=>by
  have h:=aI5 (fr:=fr) (to:=to) (l:=l) (x:=(i:Int)) ⟨by omega,by omega⟩;rw[Int.toNat_natCast] at h;exact h
 have hin:∀i:Nat,i<l.length→l.getD i []∈l:=fun i hi=>by rw[show l.getD i []=l[i] by simp[List.getD,hi]];exact List.getElem_mem hi
 have hne:∀i j:Nat,i<l.length→j<l.length→(!((txt (fH fr to (l.getD i []))).toList==(txt (fH fr to (l.getD j []))).toList))=(cmF fr to (l.getD j []) (l.getD i []) != 0):=fun i j hi hj=>by
  have hli:=kQ (ho _ (hin i hi));have hlj:=kQ (ho _ (hin j hj));have hci:=List.all_eq_true.1 hall _ (hin i hi);have hcj:=List.all_eq_true.1 hall _ (hin j hj);rw[aDi (by rw[hli,hlj]) hci hcj];unfold cmF;rw[aAP (fH fr to (l.getD i [])) (fH fr to (l.getD j [])) (by rw[hli,hlj])];generalize iR (fH fr to (l.getD i [])) (fH fr to (l.getD j []))=c;by_cases h0:c=0
  ·subst h0;rfl
  ·have h1:(c==0)=false:=by simp[h0]
   have h2:(-c != 0)=true:=by simp;omega
   rw[h1,h2];rfl
 generalize E cSt (bO fr to l)=K at *
 refine fn0 Cd.s_l09Groups_k fun X=>?_
 repeat' first|simp -dsimp only[go_sem,hkl]|apply Br.mk<;>intro h<;>try simp -dsimp only[h]|refine aC ?_|fail
 refine aN.at dM (X:={zz:Nat×(Unit) // zz.1≤l.length∧True}) (fun zz=>[(3,.loc (.t 3 0) 0 (bL fr to l zz.1.1).length),(4,.v (.int .i64 zz.1.1))]) (fun zz=>[(.t 3 0,.arr 1 (E cI (bL fr to l zz.1.1)) false)]) (fun zz=>l.length-zz.1.1) ⟨(0,()),by omega,trivial⟩ ?_ ?_
 ·simp[Vs.LeL,Vs.look,Vs.aB,Vs.aQ,Vs.aL,Vs.hset,Vs.aM,Vs.E,vB]
 ·rintro⟨⟨i,_⟩,hi,hg⟩;dsimp only at hi hg;simp -dsimp only[go_sem,hkl];refine Br.mk (fun hc=>?_) fun hc=>?_
  ·have hlt:i<l.length:=Dq;have hw:=aH hlt (by omega);have hgl:=jJ fr to l i;have gi:=hke i hlt;have hap:E cI (bL fr to l i)++[[.v (.int .i64 (i:Int))]]=E cI (bL fr to l i++[(i:Int)]):=by rw[aY];rfl
   have hal:(E cI (bL fr to l i)).length=(bL fr to l i).length:=aI ..
   have hgs:=rM fr to l i;by_cases h0:i=0
   ·subst h0;rw[if_pos (.inl rfl)] at hgs;have e0:(((0:Nat):Int)==0)=true:=rfl
    repeat' first|simp -dsimp only[go_sem,e0,hw,hap,hal,gi]|apply Br.mk<;>intro h<;>try simp -dsimp only[h]|refine aC ?_|fail
    all_goals first|omega|(exact nx (0+1,()) trivial (h2:=by simp[Vs.LeL,Vs.look,Vs.aB,Vs.aQ,Vs.aL,Vs.hset,Vs.aM,hgs]))
   ·have e0:((i:Int)==0)=false:=by simp[h0]
    have w0:IntKind.i64.wrap ((i:Int)-1)=((i-1:Nat):Int):=by rw[aP (by omega) (by omega)];omega
    have hl1:i-1<l.length:=by omega
    have gj:=hke (i-1) hl1;have hn:=hne i (i-1) hlt hl1;by_cases hc0:cmF fr to (l.getD (i-1) []) (l.getD i [])=0
    ·have e1:(cmF fr to (l.getD (i-1) []) (l.getD i []) != 0)=false:=by rw[hc0];rfl
     rw[e1] at hn;rw[if_neg (by rintro(h|h)<;>contradiction),List.append_nil] at hgs
     repeat' first|simp -dsimp only[go_sem,e0,hn,hkl,w0,hw,hap,hal,gi,gj]|apply Br.mk<;>intro h<;>try simp -dsimp only[h]|refine aC ?_|fail
     all_goals first|omega|(exact nx (i+1,()) trivial (h2:=by simp[Vs.LeL,Vs.look,Vs.aB,Vs.aQ,Vs.aL,Vs.hset,Vs.aM,hgs]))
    ·have e1:(cmF fr to (l.getD (i-1) []) (l.getD i []) != 0)=true:=bne_iff_ne.2 hc0;rw[e1] at hn;rw[if_pos (.inr hc0)] at hgs
     repeat' first|simp -dsimp only[go_sem,e0,hn,hkl,w0,hw,hap,hal,gi,gj]|apply Br.mk<;>intro h<;>try simp -dsimp only[h]|refine aC ?_|fail
     all_goals first|omega|(exact nx (i+1,()) trivial (h2:=by simp[Vs.LeL,Vs.look,Vs.aB,Vs.aQ,Vs.aL,Vs.hset,Vs.aM,hgs]))
  ·have hge:i=l.length:=by
    have:¬i<l.length:=Dq;omega
   subst hge;simp -dsimp only[go_sem,hkl];have htk:(E cI (bL fr to l l.length)).take (bL fr to l l.length).length=E cI (bL fr to l l.length):=List.take_of_length_le (by rw[aI];exact Nat.le_refl _)
   first|exact⟨⟨_,_,rfl,rfl⟩,fun h=>h rfl⟩|(rw[htk];exact⟨⟨_,_,rfl,rfl⟩,fun h=>h rfl⟩)|(simp[htk];done)
end
section
variable [Vs.Envs]
attribute [local irreducible] Vs.Fn bL aX iQ chOK areCh chTo chAt l03 chB rk cd3 chI stp stpTo
def mY (fr to:Int) (l:List (List Int)):List (List Int):=(bL fr to l l.length).map fun i=>l.getD i.toNat []
def pI (fr to:Int) (l:List (List Int)):AV:=if aX fr to l=0 then .sl 1 (E cC (mY fr to l)) else .v (.slice none 0 0)
theorem aJv (fr to:Int) (l:List (List Int)):iQ fr to [l]=aX fr to l:=by
 unfold iQ aX;simp only[List.all_cons,List.all_nil,Bool.and_true]
theorem aAJ {fr to:Int}{l:List (List Int)}:∀x,x∈bL fr to l l.length→inO l.length x:=fun x F=>uF l.length x F
attribute [local go_sem] cD aI List.replicate_succ List.replicate_zero List.flatten_cons List.flatten_nil List.cons_append List.nil_append List.set_cons_zero List.set_cons_succ List.length_cons List.length_nil List.length_set in
theorem yP (l:List (List Int)) (fr to:Int) (hk:aU l):Fz F.jB [.sl 1 (E cC l),.agg (cFd fr to)] (.tup [pI fr to l,.v (.int .i64 (aX fr to l))]):=by
 have CC:=uI fr to [l] ⟨by simp,fun d hd=>by simp at hd;subst hd;exact hk⟩;rw[aJv] at CC;by_cases h0:aX fr to l=0
 ·obtain⟨hd,hf,ha⟩:=aBr h0;have ho:=dV hd hf;have h40:=kK hd;rw[show pI fr to l=.sl 1 (E cC (mY fr to l)) by simp[pI,h0],h0];have hol:=jJ fr to l l.length;have hoi:=aAJ (fr:=fr) (to:=to) (l:=l);rw[show mY fr to l=(bL fr to l l.length).map (fun i=>l.getD i.toNat []) from rfl];have GO:=aEU l fr to ho (by omega);rw[h0] at CC;generalize bL fr to l l.length=o at *
  refine fn0 Cd.i_FirstOfGroups_k fun X=>?_
  repeat' first|simp -dsimp only[go_sem,cC,cFd]|apply Br.mk<;>intro h<;>try simp -dsimp only[h]|refine aD.c (by first|exact CC|exact GO) ?_|refine aC ?_|fail
  refine aN.at dM (X:={zz:Nat×(Unit) // zz.1≤o.length∧True}) (fun zz=>[(7,.loc (.t 7 0) 0 zz.1.1),(22,.v (.int .i64 zz.1.1))]) (fun zz=>[(.t 7 0,.arr 1 (E cC ((o.take zz.1.1).map fun i=>l.getD i.toNat [])) false)]) (fun zz=>o.length-zz.1.1) ⟨(0,()),by omega,trivial⟩ ?_ ?_
  ·simp[Vs.LeL,Vs.look,Vs.aB,Vs.aQ,Vs.aL,Vs.hset,Vs.aM,Vs.E]
  ·rintro⟨⟨i,_⟩,hi,hg⟩;dsimp only at hi hg;simp -dsimp only[go_sem,cC,cFd];refine Br.mk (fun hc=>?_) fun hc=>?_
   ·have hlt:i<o.length:=Dq;have hw:=aH hlt (by omega);have hx:=hoi _ (List.getElem_mem hlt);have gx:=aAR hx;have hm:=mK hx;have hc20:(l.getD o[i].toNat []).length≤20:=(ho _ hm).2.2.2;have NC:=aBl (l.getD o[i].toNat []) (by omega);have x0:=hx.1;have x1:=hx.2
    have hap:E cC ((o.take i).map fun i=>l.getD i.toNat [])++[[.sl 1 (E cI (l.getD o[i].toNat []))]]=E cC ((o.take (i+1)).map fun i=>l.getD i.toNat []):=by
     rw[bJ hlt,List.map_append,aY];rfl
    have hal:(E cC ((o.take i).map fun i=>l.getD i.toNat [])).length=i:=by rw[aI];simp;omega
    repeat' first|simp -dsimp only[go_sem,cZ hlt,hw,hap,hal,gx,cC,cFd]|apply Br.mk<;>intro h<;>try simp -dsimp only[h]|refine aD.c (by first|exact NC) ?_|refine aC ?_|fail
    all_goals first|omega|(exact nx (i+1,()) trivial (h2:=by simp[Vs.LeL,Vs.look,Vs.aB,Vs.aQ,Vs.aL,Vs.hset,Vs.aM,hap]))
   ·have hge:i=o.length:=by
     have:¬i<o.length:=Dq;omega
    subst hge;simp -dsimp only[go_sem,cC,cFd]
    have htk:(E cC ((o.take o.length).map fun i=>l.getD i.toNat [])).take o.length=E cC (o.map fun i=>l.getD i.toNat []):=by
     rw[List.take_of_length_le (Nat.le_refl o.length)];exact List.take_of_length_le (by rw[aI];simp)
    first|exact⟨⟨_,_,rfl,rfl⟩,fun h=>h rfl⟩|(rw[htk];exact⟨⟨_,_,rfl,rfl⟩,fun h=>h rfl⟩)|(simp[htk];done)
 ·have e0:(aX fr to l != 0)=true:=by simp[h0]
  rw[show pI fr to l=.v (.slice none 0 0) by simp[pI,h0]];generalize aX fr to l=c at *
  refine fn0 Cd.i_FirstOfGroups_k fun X=>?_
  repeat' first|simp -dsimp only[go_sem,cC,cFd,e0]|apply Br.mk<;>intro h<;>try simp -dsimp only[h]|refine aD.c (by first|exact CC) ?_|refine aC ?_|fail
  all_goals first|exact⟨_,_,rfl,rfl⟩
attribute [local go_sem] cD aI List.replicate_succ List.replicate_zero List.flatten_cons List.flatten_nil List.cons_append List.nil_append List.set_cons_zero List.set_cons_succ List.length_cons List.length_nil List.length_set in
theorem qH (l:List (List Int)) (fr to:Int) (hk:aU l):Fz F.iW [.sl 1 (E cC l),.agg (cFd fr to)] (.tup [pI fr to l,.v (.int .i64 (aX fr to l))]):=by
 have KS:=jP l fr to hk.2 hk.1;by_cases h0:aX fr to l=0
 ·obtain⟨hd,hf,ha⟩:=aBr h0;have ho:=dV hd hf;have h40:=kK hd;rw[show pI fr to l=.sl 1 (E cC (mY fr to l)) by simp[pI,h0],h0];have hol:=jJ fr to l l.length;have hoi:=aAJ (fr:=fr) (to:=to) (l:=l);rw[show mY fr to l=(bL fr to l l.length).map (fun i=>l.getD i.toNat []) from rfl];have GO:=aCP l fr to ho ha (by omega);rw[show gK fr to l=.sl 1 (E cSt (bO fr to l)) by simp[gK,h0],h0] at KS;generalize bL fr to l l.length=o at *
  refine fn0 Cd.s_FirstOfGroups_k fun X=>?_
  repeat' first|simp -dsimp only[go_sem,cC,cFd]|apply Br.mk<;>intro h<;>try simp -dsimp only[h]|refine aD.c (by first|exact KS|exact GO) ?_|refine aC ?_|fail
  refine aN.at dM (X:={zz:Nat×(Unit) // zz.1≤o.length∧True}) (fun zz=>[(9,.loc (.t 9 0) 0 zz.1.1),(10,.v (.int .i64 zz.1.1))]) (fun zz=>[(.t 9 0,.arr 1 (E cC ((o.take zz.1.1).map fun i=>l.getD i.toNat [])) false)]) (fun zz=>o.length-zz.1.1) ⟨(0,()),by omega,trivial⟩ ?_ ?_
  ·simp[Vs.LeL,Vs.look,Vs.aB,Vs.aQ,Vs.aL,Vs.hset,Vs.aM,Vs.E]
  ·rintro⟨⟨i,_⟩,hi,hg⟩;dsimp only at hi hg;simp -dsimp only[go_sem,cC,cFd];refine Br.mk (fun hc=>?_) fun hc=>?_
   ·have hlt:i<o.length:=Dq;have hw:=aH hlt (by omega);have hx:=hoi _ (List.getElem_mem hlt);have gx:=aAR hx;have hm:=mK hx;have hc20:(l.getD o[i].toNat []).length≤20:=(ho _ hm).2.2.2;have NC:=wI (l.getD o[i].toNat []) (by omega);have x0:=hx.1;have x1:=hx.2
    have hap:E cC ((o.take i).map fun i=>l.getD i.toNat [])++[[.sl 1 (E cI (l.getD o[i].toNat []))]]=E cC ((o.take (i+1)).map fun i=>l.getD i.toNat []):=by
     rw[bJ hlt,List.map_append,aY];rfl
    have hal:(E cC ((o.take i).map fun i=>l.getD i.toNat [])).length=i:=by rw[aI];simp;omega
    repeat' first|simp -dsimp only[go_sem,cZ hlt,hw,hap,hal,gx,cC,cFd]|apply Br.mk<;>intro h<;>try simp -dsimp only[h]|refine aD.c (by first|exact NC) ?_|refine aC ?_|fail
    all_goals first|omega|(exact nx (i+1,()) trivial (h2:=by simp[Vs.LeL,Vs.look,Vs.aB,Vs.aQ,Vs.aL,Vs.hset,Vs.aM,hap]))
   ·have hge:i=o.length:=by
     have:¬i<o.length:=Dq;omega
    subst hge;simp -dsimp only[go_sem,cC,cFd]
    have htk:(E cC ((o.take o.length).map fun i=>l.getD i.toNat [])).take o.length=E cC (o.map fun i=>l.getD i.toNat []):=by
     rw[List.take_of_length_le (Nat.le_refl o.length)];exact List.take_of_length_le (by rw[aI];simp)
    first|exact⟨⟨_,_,rfl,rfl⟩,fun h=>h rfl⟩|(rw[htk];exact⟨⟨_,_,rfl,rfl⟩,fun h=>h rfl⟩)|(simp[htk];done)
 ·have e0:(aX fr to l != 0)=true:=by simp[h0]
  rw[show pI fr to l=.v (.slice none 0 0) by simp[pI,h0]];rw[show gK fr to l=.v (.slice none 0 0) by simp[gK,h0]] at KS;generalize aX fr to l=c at *
  refine fn0 Cd.s_FirstOfGroups_k fun X=>?_
  repeat' first|simp -dsimp only[go_sem,cC,cFd,e0]|apply Br.mk<;>intro h<;>try simp -dsimp only[h]|refine aD.c (by first|exact KS) ?_|refine aC ?_|fail
  all_goals first|exact⟨_,_,rfl,rfl⟩
end
section
variable [Vs.Envs]
attribute [local irreducible] Vs.Fn chOK areCh chTo chAt l03 chB rk cd3 chI stb mJ
theorem aCB {fr to:Int}{l:List (List Int)}:∀n,stpTo fr to l n=[]→∀i,i<n→¬cmF fr to (l.getD (i+1) []) (l.getD i [])<0
 |0,_,i,hi=>by omega
 | n+1,h,i,hi=>by
  rw[stpTo] at h;obtain⟨F,h2⟩:=List.append_eq_nil_iff.1 h;by_cases hin:i=n
  ·subst hin;intro G;rw[if_pos G] at h2;cases h2
  ·exact aCB n F i (by omega)
theorem aJD {fr to:Int}{l:List (List Int)} (h:gQ fr to l=true):∀i,i+1<l.length→¬cmF fr to (l.getD (i+1) []) (l.getD i [])<0:=by
 intro i hi
 have F:stp fr to l=[]:=by
  unfold gQ at h;have:=beq_iff_eq.1 h;exact List.eq_nil_of_length_eq_zero (by omega)
 exact aCB (l.length-1) F i (by omega)
def skp (cf:Int→Int→Int) (na:Nat) (i:Nat):Nat→Nat→Nat
 |0,k=>k
 |m+1,k=>if cf ((na+k:Nat):Int) (i:Int)<0 then skp cf na i m (k+1) else k
def mgK (cf:Int→Int→Int) (na nb:Nat):Nat→Nat
 |0=>0
 |i+1=>skp cf na i (nb-mgK cf na nb i) (mgK cf na nb i)
def rng (a n:Nat):List Int:=(List.range' a n).map fun j:Nat=>(j:Int)
def mgI (cf:Int→Int→Int) (na nb:Nat):Nat→List Int
 |0=>[]
 |i+1=>mgI cf na nb i++rng (na+mgK cf na nb i) (mgK cf na nb (i+1)-mgK cf na nb i)++[(i:Int)]
def mgF (cf:Int→Int→Int) (na nb:Nat):List Int:=mgI cf na nb na++rng (na+mgK cf na nb na) (nb-mgK cf na nb na)
theorem aIz (a:Nat):rng a 0=[]:=rfl
theorem aEm (a n:Nat):rng a (n+1)=rng a n++[((a+n:Nat):Int)]:=by
 simp[rng,List.range'_concat]
theorem xI (a n:Nat):(rng a n).length=n:=by simp[rng]
theorem aGz {a n:Nat}{x:Int} (h:x∈rng a n):∃j,a≤j∧j<a+n∧x=(j:Int):=by
 obtain⟨j,G,rfl⟩:=List.mem_map.1 h;obtain⟨F,h2⟩:=List.mem_range'_1.1 G;exact⟨j,F,h2,rfl⟩
theorem aDx (a m n:Nat):rng a m++rng (a+m) n=rng a (m+n):=by
 simp[rng,←List.map_append,List.range'_append]
theorem aIo {cf:Int→Int→Int}{na i nb k:Nat} (h:k<nb):skp cf na i (nb-k) k=if cf ((na+k:Nat):Int) (i:Int)<0 then skp cf na i (nb-(k+1)) (k+1) else k:=by
 rw[show nb-k=(nb-(k+1))+1 by omega,skp]
theorem aIn {cf:Int→Int→Int}{na i nb k:Nat} (h:¬k<nb):skp cf na i (nb-k) k=k:=by
 rw[show nb-k=0 by omega,skp]
theorem aFt (cf:Int→Int→Int) (na i:Nat):∀m k,k≤skp cf na i m k∧skp cf na i m k≤k+m
 |0,k=>by simp[skp]
 | m+1,k=>by
  rw[skp];split
  ·have:=aFt cf na i m (k+1);omega
  ·omega
theorem aIp (cf:Int→Int→Int) (na i:Nat):∀m k j,k≤j→j<skp cf na i m k→cf ((na+j:Nat):Int) (i:Int)<0
 |0,k,j,h1,h2=>by rw[skp] at h2;omega
 | m+1,k,j,h1,h2=>by
  rw[skp] at h2;split at h2
  ·rename_i F;by_cases G:j=k
   ·subst G;exact F
   ·exact aIp cf na i m (k+1) j (by omega) h2
  ·omega
theorem aIq (cf:Int→Int→Int) (na i:Nat):∀m k,skp cf na i m k<k+m→¬cf ((na+skp cf na i m k:Nat):Int) (i:Int)<0
 |0,k,h=>by rw[skp] at h;omega
 | m+1,k,h=>by
  rw[skp] at h⊢;split at h
  ·rename_i F;rw[if_pos F];exact aIq cf na i m (k+1) (by omega)
  ·rename_i F;rw[if_neg F];exact F
theorem uT (cf:Int→Int→Int) (na nb:Nat):∀i,mgK cf na nb i≤nb
 |0=>Nat.zero_le _
 | i+1=>by
  have h:=uT cf na nb i;have:=aFt cf na i (nb-mgK cf na nb i) (mgK cf na nb i);rw[mgK];omega
theorem aDG (cf:Int→Int→Int) (na nb i:Nat):mgK cf na nb i≤mgK cf na nb (i+1):=by
 rw[mgK];exact(aFt cf na i _ _).1
theorem aBm (cf:Int→Int→Int) (na nb:Nat):∀i,(mgI cf na nb i).length=i+mgK cf na nb i
 |0=>rfl
 | i+1=>by
  have:=aBm cf na nb i;have h2:=aDG cf na nb i;rw[mgI];simp only[List.length_append,List.length_singleton,xI,this];omega
theorem aEy (cf:Int→Int→Int) (na nb:Nat):∀i,(mgI cf na nb i).Perm (rng 0 i++rng na (mgK cf na nb i))
 |0=>by simp[mgI,mgK,rng]
 | i+1=>by
  have F:=aEy cf na nb i;have h2:=aDG cf na nb i;rw[mgI,aEm]
  have e:rng na (mgK cf na nb (i+1))=rng na (mgK cf na nb i)++rng (na+mgK cf na nb i) (mgK cf na nb (i+1)-mgK cf na nb i):=by
   rw[aDx];congr 1;omega
  rw[e];generalize rng (na+mgK cf na nb i) (mgK cf na nb (i+1)-mgK cf na nb i)=r at *
  generalize rng na (mgK cf na nb i)=q at *
  generalize rng 0 i=p at *
  generalize mgI cf na nb i=o at *
  rw[Nat.zero_add]
  calc o++r++[(i:Int)] |>.Perm (p++q++r++[(i:Int)]):=List.Perm.append_right _ (List.Perm.append_right _ F)
   _ |>.Perm (p++((q++r)++[(i:Int)])):=by rw[List.append_assoc,List.append_assoc,List.append_assoc]
   _ |>.Perm (p++([(i:Int)]++(q++r))):=List.Perm.append_left _ List.perm_append_comm
   _ |>.Perm (p++[(i:Int)]++(q++r)):=by rw[List.append_assoc]
theorem aI7 (n:Nat):iota n=rng 0 n:=by simp[iota,rng,List.range_eq_range']
theorem aEz (cf:Int→Int→Int) (na nb:Nat):(mgF cf na nb).Perm (iota (na+nb)):=by
 have H:=aEy cf na nb na;have h2:=uT cf na nb na;unfold mgF;rw[aI7]
 have e:rng 0 (na+nb)=rng 0 na++rng na (mgK cf na nb na)++rng (na+mgK cf na nb na) (nb-mgK cf na nb na):=by
  have F:=aDx 0 na (mgK cf na nb na);have G:=aDx 0 (na+mgK cf na nb na) (nb-mgK cf na nb na);rw[Nat.zero_add] at F G;rw[F,G];congr 1;omega
 rw[e];exact List.Perm.append_right _ H
theorem aKk (cf:Int→Int→Int) (na nb:Nat):(mgF cf na nb).length=na+nb:=by rw[(aEz cf na nb).length_eq,mP]
section
variable {cf:Int→Int→Int}{R:Int→Int→Prop}{na nb:Nat} (htr:∀x y z,R x y→R y z→R x z)
 (hlt:∀i j:Nat,i<na→j<nb→cf ((na+j:Nat):Int) (i:Int)<0→R ((na+j:Nat):Int) (i:Int))
 (hge:∀i j:Nat,i<na→j<nb→¬cf ((na+j:Nat):Int) (i:Int)<0→R (i:Int) ((na+j:Nat):Int))
 (hA:∀i j:Nat,i<j→j<na→R (i:Int) (j:Int)) (hB:∀i j:Nat,i<j→j<nb→R ((na+i:Nat):Int) ((na+j:Nat):Int))
include htr hlt hge hA hB
theorem aGG:∀i,i≤na→(mgI cf na nb i).Pairwise R∧(∀x,x∈mgI cf na nb i→∀j:Nat,i≤j→j<na→R x (j:Int))∧(∀x,x∈mgI cf na nb i→∀j:Nat,mgK cf na nb i≤j→j<nb→R x ((na+j:Nat):Int))
 |0,_=>⟨List.Pairwise.nil,fun x F=>(by cases F),fun x F=>(by cases F)⟩
 | i+1,hi=>by
  obtain⟨h1,h2,h3⟩:=aGG i (by omega);have hk:=aDG cf na nb i;have hf:=uT cf na nb (i+1);have he:=uT cf na nb i;have U:∀j,mgK cf na nb i≤j→j<mgK cf na nb (i+1)→cf ((na+j:Nat):Int) (i:Int)<0:=fun j a b=>aIp cf na i _ _ j a (by rw[mgK] at b;exact b)
  have Y:mgK cf na nb (i+1)<nb→¬cf ((na+mgK cf na nb (i+1):Nat):Int) (i:Int)<0:=fun h=>by
   have:=aIq cf na i (nb-mgK cf na nb i) (mgK cf na nb i);rw[mgK] at h⊢;exact this (by omega)
  rw[mgI];generalize hK:mgK cf na nb i=k at *
  generalize hc:mgK cf na nb (i+1)=k' at *
  have O:∀x,x∈rng (na+k) (k'-k)→∃j,k≤j∧j<k'∧x=((na+j:Nat):Int):=fun x F=>by
   obtain⟨j,a,b,rfl⟩:=aGz F;exact⟨j-na,by omega,by omega,by congr 1;omega⟩
  have H:∀x,x∈rng (na+k) (k'-k)→R x (i:Int):=fun x F=>by
   obtain⟨j,a,b,rfl⟩:=O x F;exact hlt i j (by omega) (by omega) (U j a b)
  have G:∀j:Nat,i<j→j<na→R (i:Int) (j:Int):=fun j a b=>hA i j a b
  have J:∀j:Nat,k'≤j→j<nb→R (i:Int) ((na+j:Nat):Int):=fun j a b=>by
   have h0:=hge i k' (by omega) (by omega) (Y (by omega));by_cases hj:j=k'
   ·subst hj;exact h0
   ·exact htr _ _ _ h0 (hB k' j (by omega) b)
  have L:∀x,x∈mgI cf na nb i→R x (i:Int):=fun x F=>h2 x F i (Nat.le_refl _) (by omega)
  have M:∀x,x∈mgI cf na nb i→∀y,y∈rng (na+k) (k'-k)→R x y:=fun x F y I=>by
   obtain⟨j,a,b,rfl⟩:=O y I;exact h3 x F j a (by omega)
  refine⟨?_,?_,?_⟩
  ·rw[List.pairwise_append,List.pairwise_append];refine⟨⟨h1,?_,M⟩,List.pairwise_singleton _ _,fun x F y I=>?_⟩
   ·unfold rng;rw[List.pairwise_map];refine List.Pairwise.imp_of_mem (R:=fun a b=>a<b) ?_ List.pairwise_lt_range';intro a b ha hb hd;obtain⟨a1,a2⟩:=List.mem_range'_1.1 ha;obtain⟨b1,b2⟩:=List.mem_range'_1.1 hb;have:=hB (a-na) (b-na) (by omega) (by omega)
    rwa [show na+(a-na)=a by omega,show na+(b-na)=b by omega] at this
   ·rw[List.mem_singleton] at I;subst I;rcases List.mem_append.1 F with F|F
    ·exact L x F
    ·exact H x F
  ·intro x F j a b;rcases List.mem_append.1 F with F|F
   ·rcases List.mem_append.1 F with F|F
    ·exact h2 x F j (by omega) b
    ·exact htr _ _ _ (H x F) (G j (by omega) b)
   ·rw[List.mem_singleton] at F;subst F;exact G j (by omega) b
  ·intro x F j a b;rcases List.mem_append.1 F with F|F
   ·rcases List.mem_append.1 F with F|F
    ·exact h3 x F j (by omega) b
    ·obtain⟨j',a',b',rfl⟩:=O x F;exact hB j' j (by omega) b
   ·rw[List.mem_singleton] at F;subst F;exact J j a b
theorem aKj:(mgF cf na nb).Pairwise R:=by
 obtain⟨F,h2,G⟩:=aGG htr hlt hge hA hB na (Nat.le_refl _);unfold mgF;rw[List.pairwise_append];refine⟨F,?_,fun x M y O=>?_⟩
 ·unfold rng;rw[List.pairwise_map];refine List.Pairwise.imp_of_mem (R:=fun a b=>a<b) ?_ List.pairwise_lt_range';intro a b H J I;obtain⟨U,Y⟩:=List.mem_range'_1.1 H;obtain⟨b1,b2⟩:=List.mem_range'_1.1 J;have L:=uT cf na nb na;have:=hB (a-na) (b-na) (by omega) (by omega)
  rwa [show na+(a-na)=a by omega,show na+(b-na)=b by omega] at this
 ·obtain⟨j,a,b,rfl⟩:=aGz O;have L:=uT cf na nb na;have:=G x M (j-na) (by omega) (by omega)
  rwa [show na+(j-na)=j by omega] at this
end
theorem aIJ {R:Nat→Nat→Prop} (htr:∀x y z,R x y→R y z→R x z) {n:Nat} (h:∀i,i+1<n→R i (i+1)):∀i j,i<j→j<n→R i j:=by
 intro i j G F;obtain⟨d,rfl⟩:∃d,j=i+1+d:=⟨j-(i+1),by omega⟩
 induction d with
 |zero=>exact h i F
 |succ d ih=>exact htr _ _ _ (ih (by omega) (by omega)) (h (i+1+d) F)
theorem aG5 {a b:List (List Int)}{i:Nat} (h:i<a.length):(a++b).getD i []=a.getD i []:=by simp[List.getD,List.getElem?_append_left h]
theorem aG4 {a b:List (List Int)} (j:Nat):(a++b).getD (a.length+j) []=b.getD j []:=by
 simp only[List.getD];rw[List.getElem?_append_right (by omega),Nat.add_sub_cancel_left]
theorem aFD {fr to:Int}{a b:List (List Int)} (F:∀c,c∈a++b→okF fr to c) (hl:a.length+b.length≤40) (O:gQ fr to a=true) (U:gQ fr to b=true) :
  mgF (cfO fr to (a++b)) a.length b.length=mJ fr to (a++b):=by
 have H:(a++b).length=a.length+b.length:=by simp
 obtain⟨L,h2⟩:=aBP F (by omega);rw[H] at L;have hin:∀i:Nat,i<a.length+b.length→inO (a++b).length (i:Int):=fun i hi=>⟨by omega,by omega⟩
 have G:∀i j:Nat,i<j→j<a.length+b.length→¬cfO fr to (a++b) (j:Int) (i:Int)<0→wD fr to (a++b) (i:Int) (j:Int):=by
  intro i j Y J I;have e:=aBx F (hin i (by omega)) (hin j J);refine⟨⟨hin i (by omega),hin j J⟩,?_⟩;by_cases M:cfO fr to (a++b) (i:Int) (j:Int)=0
  ·exact .inr ⟨M,by omega⟩
  ·exact .inl (by omega)
 have hA:∀i j:Nat,i<j→j<a.length→wD fr to (a++b) (i:Int) (j:Int):=by
  refine aIJ (R:=fun i j=>wD fr to (a++b) (i:Int) (j:Int)) (fun x y z=>lH F _ _ _) fun i hi=>?_;refine G i (i+1) (by omega) (by omega) ?_;have:=aJD O i hi;unfold cfO;rw[Int.toNat_natCast,Int.toNat_natCast,aG5 hi,aG5 (by omega)];exact this
 have hB:∀i j:Nat,i<j→j<b.length→wD fr to (a++b) ((a.length+i:Nat):Int) ((a.length+j:Nat):Int):=by
  refine aIJ (R:=fun i j=>wD fr to (a++b) ((a.length+i:Nat):Int) ((a.length+j:Nat):Int)) (fun x y z=>lH F _ _ _) fun i hi=>?_;refine G _ _ (by omega) (by omega) ?_;have:=aJD U i hi;unfold cfO;rw[Int.toNat_natCast,Int.toNat_natCast,aG4,aG4];exact this
 refine aDq (lH F) (aAA F) ((aEz _ _ _).trans L.symm) (aKj (lH F) (fun i j hi J I=>?_) (fun i j hi J I=>?_) hA hB) h2
 ·exact⟨⟨hin _ (by omega),hin _ (by omega)⟩,.inl I⟩
 ·exact G i _ (by omega) (by omega) I
end
section
variable [Vs.Envs]
attribute [local irreducible] Vs.Fn chOK areCh chTo chAt l03 chB rk cd3 chI stp stpTo
def eX (fr to:Int) (l:List (List Int)):Int:=l.foldl (fun a c=>IntKind.i64.wrap (a+(kS fr to c).1)) 0
def rT (fr to:Int) (l:List (List Int)):Bool:=l.all fun c=>(kS fr to c).2
theorem aHi {fr to:Int}{l:List (List Int)}{i:Nat} (h:i<l.length):eX fr to (l.take (i+1))=IntKind.i64.wrap (eX fr to (l.take i)+(kS fr to l[i]).1):=by
 unfold eX;rw[bJ h,List.foldl_append];rfl
def zA (fr to:Int) (l:List (List Int)):AV:=if rT fr to l then .sl 1 (E cI [eX fr to l]) else .v (.slice none 0 0)
attribute [local irreducible] eX kS
attribute [local go_sem] cFd aI List.replicate_succ List.replicate_zero List.flatten_cons List.flatten_nil List.cons_append List.nil_append List.set_cons_zero List.set_cons_succ List.length_cons List.length_nil List.length_set List.getD_cons_zero in
theorem aDp (l:List (List Int)) (fr to:Int) (ho:∀c,c∈l→okP fr to c) (hl:l.length≤1048576):Fz F.tZ [.sl 2 [[.v (.int .i64 fr),.v (.int .i64 to)]],.sl 1 (E cC l)] (.tup [zA fr to l,.v (.bool (rT fr to l))]):=by
 refine fn0 Cd.i_sumsOf_k fun X=>?_
 repeat' first|simp -dsimp only[go_sem,cC]|apply Br.mk<;>intro h<;>try simp -dsimp only[h]|refine aC ?_|fail
 refine aN.at dM (X:={zz:Nat×(Unit) // zz.1≤1∧(zz.1=1→rT fr to l=true)}) (fun zz=>[(6,.loc (.t 6 0) 0 zz.1.1),(17,.v (.int .i64 zz.1.1))]) (fun zz=>[(.t 6 0,.arr 1 (E cI ([eX fr to l].take zz.1.1)) false)]) (fun zz=>1-zz.1.1) ⟨(0,()),by omega,by intro h;cases h⟩ ?_ ?_
 ·simp[Vs.LeL,Vs.look,Vs.aB,Vs.aQ,Vs.aL,Vs.hset,Vs.aM,Vs.E]
 ·rintro⟨⟨i,_⟩,hi,hg⟩;dsimp only at hi hg;simp -dsimp only[go_sem,cC];refine Br.mk (fun hc=>?_) fun hc=>?_
  ·have hlt:i<1:=Dq;have hw:=aH hlt (by omega);obtain rfl:i=0:=by omega
   repeat' first|simp -dsimp only[go_sem,cC]|apply Br.mk<;>intro h<;>try simp -dsimp only[h]|refine aC ?_|fail
   refine aN.at dM (X:={zz:Nat×(Unit) // zz.1≤l.length∧(l.take zz.1).all (fun c=>(kS fr to c).2)=true}) (fun zz=>[(9,.v (.int .i64 (eX fr to (l.take zz.1.1)))),(23,.v (.int .i64 zz.1.1))]) (fun zz=>[]) (fun zz=>l.length-zz.1.1) ⟨(0,()),by omega,by simp⟩ ?_ ?_
   ·simp[Vs.LeL,Vs.look,Vs.aB,Vs.aQ,Vs.aL,Vs.hset,Vs.aM,eX]
   ·rintro⟨⟨i,_⟩,hi,hg⟩;dsimp only at hi hg;simp -dsimp only[go_sem,cC];refine Br.mk (fun hc=>?_) fun hc=>?_
    ·have hlt:i<l.length:=Dq;have hw:=aH hlt hl;have hm:(E cC l).getD i []=[.sl 1 (E cI l[i])]:=aS hlt;have NI:=aHs (ho _ (List.getElem_mem hlt));have hss:=aHi (fr:=fr) (to:=to) hlt;cases hb:(kS fr to l[i]).2
     ·rw[hb] at NI;have hna:rT fr to l=false:=fT (p:=fun c=>(kS fr to c).2) hlt hb;have hv:zA fr to l=.v (.slice none 0 0):=by simp[zA,hna]
      repeat' first|simp -dsimp only[go_sem,hm,hw,cC]|apply Br.mk<;>intro h<;>try simp -dsimp only[h]|refine aD.c (by first|exact NI) ?_|refine aC ?_|fail
      all_goals first|omega|(rw[hv,hna];exact⟨_,_,rfl,rfl⟩)|(simp[hv,hna];done)
     ·rw[hb] at NI;simp -dsimp only[go_sem,hm,hw,cC]
      repeat' first|simp -dsimp only[go_sem,hm,hw,←hss,cC]|apply Br.mk<;>intro h<;>try simp -dsimp only[h]|refine aD.c (by first|exact NI) ?_|refine aC ?_|fail
      all_goals first|omega|(exact nx (i+1,()) (aZ (p:=fun c=>(kS fr to c).2) hlt hg hb) (h2:=by simp[Vs.LeL,Vs.look,Vs.aB,Vs.aQ,Vs.aL,Vs.hset,Vs.aM,hss]))
    ·have hge:i=l.length:=by
      have:¬i<l.length:=Dq;omega
     subst hge;simp -dsimp only[go_sem,cC];have hall:rT fr to l=true:=by simpa[rT] using hg
     have e01:IntKind.i64.wrap 1=1:=rfl;have hfull:l.take l.length=l:=List.take_of_length_le (Nat.le_refl _);refine⟨⟨by decide,by decide,?_⟩,fun h=>absurd rfl h⟩;exact⟨⟨(1,()),⟨by omega,fun _=>hall⟩⟩,by simp[Vs.LeL,Vs.look,Vs.aB,Vs.aQ,Vs.aL,Vs.hset,Vs.aM,hfull,e01,Vs.E,cI],by simp only;omega⟩
  ·have hge:i=1:=by
    have:¬i<1:=Dq;omega
   subst hge;simp -dsimp only[go_sem,cC];have hall:=hg rfl;rw[hall,show zA fr to l=.sl 1 (E cI [eX fr to l]) by simp[zA,hall]];exact⟨⟨_,_,rfl,rfl⟩,fun h=>h rfl⟩
end
end Go.Proofs.YtkgeiaideklmoaaGreat
