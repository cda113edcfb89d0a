/- SortedBy: the program and the reference. -/
import Derived.Test.YtmiiohemehacjaaGreatDoorXwSh
import Derived.Test.YtmiiohemehacjaaGreatDoorVtR
import Derived.Test.YtmiiohemehacjaaGreatDoorXwQb
set_option linter.all false
set_option maxHeartbeats 8000000
namespace Go.Proofs.YtmiiohemehacjaaGreatDoor
open Go.Vs
section
variable [Vs.Envs]
attribute [local irreducible] Vs.Fn chOK areCh chTo chAt l03 chB rk cd3 chI stp stpTo flt uH zR aAQ mat jN iE stF
attribute [local go_sem] List.replicate_succ List.replicate_zero List.flatten_cons List.flatten_nil List.cons_append List.nil_append List.set_cons_zero List.set_cons_succ List.length_cons List.length_nil List.length_set
theorem aIk:∀{a b:List Int},a.length=b.length->bU a=true->bU b=true->(iN a b=0↔a=b)
 | [],[],_,_,_=>by simp[iN]
 | [],y::b,h,_,_=>by simp at h
 |x::a,[],h,_,_=>by simp at h
 | x::a,y::b,h,ha,hb=>by
  simp only[bU,List.all_cons,Bool.and_eq_true,decide_eq_true_eq] at ha hb;have I:=aIk (a:=a) (b:=b) (by simpa using h) (by simpa[bU] using ha.2) (by simpa[bU] using hb.2);rw[iN];by_cases F:rk x<rk y
  .rw[if_pos F];refine⟨λh=>by simp at h,λh=>?_⟩;simp only[List.cons.injEq] at h;rw[h.1] at F;omega
  .rw[if_neg F];by_cases h2:rk x>rk y
   .rw[if_pos h2];refine⟨λh=>by simp at h,λh=>?_⟩;simp only[List.cons.injEq] at h;rw[h.1] at h2;omega
   .rw[if_neg h2,I];have H:x=y:=aJ5 ha.1 (by omega);simp[H]
theorem aLm {a b:List Int} (U:a.length=b.length) (I:bU a=true) (J:bU b=true) (h:(txt a).data.toList=(txt b).data.toList):a=b:=by
 apply List.ext_getElem U;intro i H h2;have F:=aEm I H;have L:=aEm J h2;rw[h,L] at F;have Z:=aCr a[i];have r2:=aCr b[i];have O:=vP I H;have Y:=vP J h2;have:=aIl (rk b[i]).toNat (by omega) (rk a[i]).toNat (by omega) F;exact aJ5 O (by omega)
theorem aEl {a b:List Int} (I:a.length=b.length) (F:bU a=true) (H:bU b=true):((txt a).toList==(txt b).toList)=(iN a b==0):=by
 rw[ByteArray.toList_eq,ByteArray.toList_eq];have h:=aIk I F H;by_cases e:a=b
 .subst e;have:iN a a=0:=h.2 rfl;simp[this]
 .have O:¬iN a b=0:=λh'=>e (h.1 h');have h2:¬(txt a).data.toList=(txt b).data.toList:=λh'=>e (aLm I F H h');have J:((txt a).data.toList==(txt b).data.toList)=false:=beq_eq_false_iff_ne.2 h2;have L:(iN a b==0)=false:=beq_eq_false_iff_ne.2 O;rw[J,L]
theorem aNr (l:List Int) (H:l.length<=1048576):Fz F.oP [.sl 1 (E cI l)] (.sl 1 (E cI l)):=by
 refine fn0 Cd.s_l00Own_k λX=>?_;simp -dsimp only[go_sem]
 first
  |exact⟨by omega,rfl,⟨rfl,by omega,by omega⟩,_,_,rfl,rfl⟩
  |exact⟨by omega,rfl,⟨by omega,by omega⟩,_,_,rfl,rfl⟩
  |exact⟨⟨by omega,by omega⟩,⟨by omega,by omega⟩,_,_,rfl,rfl⟩
theorem xQ (c:List Int) (H:c.length<=1048576):Fz F.iP [.ro (cC c)] (.agg (cC c)):=by
 refine fn0 Cd.s_l02Own_k λX=>?_
 repeat' first|simp -dsimp only[go_sem,cC,cFd]|apply Br.mk<;>intro h<;>try simp -dsimp only[h]|refine aD.c (by first|exact aNr c H) ?_|refine aC ?_|fail
 all_goals(exact⟨_,_,rfl,rfl⟩)
theorem vI (fr to:Int) (l:List (List Int)):(bK fr to l).length=l.length:=by simp[bK]
attribute [local go_sem] aI cFd in
theorem aKu (o:List (List Int)) (x:List Int) (fr to:Int) (ho:∀c,c∈o->okF fr to c) (hh:bP fr to o=true) (hx:okF fr to x) (hxh:bU (fH fr to x)=true) (hl:o.length<=1048576) :
  Fz F.xG [.sl 1 (E cSt (bK fr to o)),.v (.string (txt (fH fr to x)))] (.v (.bool (wZ fr to o x))):=by
 have hkl:=vI fr to o;refine fn0 Cd.s_l09Has_k λX=>?_;simp -dsimp only[go_sem,hkl];refine aN.at dM (X:={zz:Nat×(Unit) // zz.1<=o.length∧(o.take zz.1).all (λc=>!(cmF fr to c x==0))=true}) (λzz=>[(5,.v (.int .i64 zz.1.1))]) (λzz=>[]) (λzz=>o.length-zz.1.1) ⟨(0,()),by omega,by simp⟩ ?_ ?_
 .exact le0
 .rintro⟨⟨i,_⟩,hi,hg⟩;dsimp only at hi hg;simp -dsimp only[go_sem,hkl];refine Br.mk (λhc=>?_) λhc=>?_
  .have hlt:i<o.length:=Dq;have hw:=aH hlt hl;have hk:=ho _ (List.getElem_mem hlt);have hc:=(List.all_eq_true.1 hh) _ (List.getElem_mem hlt);have hm:(E cSt (bK fr to o)).getD i []=[.v (.string (txt (fH fr to o[i])))]:=by rw[aQ (by omega)];simp[bK,cSt]
   have he:=aEl ((kR hk).trans (kR hx).symm) hc hxh;cases hz:iN (fH fr to o[i]) (fH fr to x)==0
   .have hp:(cmF fr to o[i] x==0)=false:=hz
    repeat' first|simp -dsimp only[go_sem,hw,hm,he,hz,hkl]|apply Br.mk<;>intro h<;>try simp -dsimp only[h]|refine aC ?_|fail
    all_goals first|omega|(exact nx (i+1,()) (aX (p:=λc=>!(cmF fr to c x==0)) hlt hg (by simp[hp])))
   .have hp:(cmF fr to o[i] x==0)=true:=hz;have hany:wZ fr to o x=true:=List.any_eq_true.2 ⟨o[i],List.getElem_mem hlt,hp⟩
    repeat' first|simp -dsimp only[go_sem,hw,hm,he,hz,hkl]|apply Br.mk<;>intro h<;>try simp -dsimp only[h]|refine aC ?_|fail
    all_goals first|omega|(refine aU ?_;simp[hany];done)|(simp[hany];done)
  .have hge:i=o.length:=by
    have:¬i<o.length:=Dq;omega
   subst hge;simp -dsimp only[go_sem,hkl]
   have hany:wZ fr to o x=false:=by
    unfold wZ;rw[List.any_eq_false];intro c hc;rw[List.take_length] at hg;have:=(List.all_eq_true.1 hg) c hc;simpa using this
   simp[hany]
theorem aCL {fr to:Int}{l o:List (List Int)}{e:Bool}{i:Nat} (h:i<l.length):mat fr to (l.take (i+1)) o e=mat fr to (l.take i) o e++(if wZ fr to o l[i]==e then[l[i]] else[]):=by
 unfold mat;rw[xZ h];cases wZ fr to o l[i]==e<;>simp
theorem aH1 (fr to:Int) (l o:List (List Int)) (e:Bool):(mat fr to l o e).length<=l.length:=by unfold mat;exact yZ ..
theorem aKn (fr to:Int) (o:List (List Int)) (e:Bool):mat fr to [] o e=[]:=by unfold mat flt;rfl
theorem aH0 {fr to:Int}{l o:List (List Int)}{e:Bool}{i:Nat} (h:i<l.length) (F:wZ fr to o l[i]=e):E cC (mat fr to (l.take i) o e)++[[.sl 1 (E cI l[i])]]=E cC (mat fr to (l.take (i+1)) o e):=by
 rw[aCL h,F,aV];simp[E,cC]
theorem aFE {fr to:Int}{l o:List (List Int)}{e:Bool}{i:Nat} (h:i<l.length) (F:wZ fr to o l[i]=e):(mat fr to (l.take (i+1)) o e).length=(mat fr to (l.take i) o e).length+1:=by
 rw[aCL h,F];simp
theorem aFD {fr to:Int}{l o:List (List Int)}{e:Bool}{i:Nat} (h:i<l.length) (F:wZ fr to o l[i] = !e):mat fr to (l.take (i+1)) o e=mat fr to (l.take i) o e:=by
 rw[aCL h,F];cases e<;>simp
attribute [local go_sem] aI cFd in
theorem aFN (l o:List (List Int)) (fr to:Int) (hl:bJ l) (hol:o.length<=1048576) (oa:∀c,c∈l->okF fr to c) (ob:∀c,c∈o->okF fr to c) (ca:bP fr to l=true) (cb:bP fr to o=true) :
  Fz F.nK [.sl 1 (E cC l),.sl 1 (E cSt (bK fr to l)),.sl 1 (E cSt (bK fr to o))] (.tup [.sl 1 (E cC (mat fr to l o true)),.sl 1 (E cC (mat fr to l o false))]):=by
 have hkl:=vI fr to l;have hkm:=vI fr to o;refine fn0 Cd.s_l09Match_k λX=>?_;simp -dsimp only[go_sem,hkl,hkm];refine⟨⟨by omega,by omega⟩,⟨by omega,by omega⟩,?_⟩;refine aN.at dM (X:={zz:Nat×(Unit) // zz.1<=l.length∧True}) (λzz=>[(8,.loc (.t 8 0) 0 (mat fr to (l.take zz.1.1) o true).length),(9,.loc (.t 9 0) 0 (mat fr to (l.take zz.1.1) o false).length),(10,.v (.int .i64 zz.1.1))]) (λzz=>[(.t 8 0,.arr 1 (E cC (mat fr to (l.take zz.1.1) o true)) false),(.t 9 0,.arr 1 (E cC (mat fr to (l.take zz.1.1) o false)) false)]) (λzz=>l.length-zz.1.1) ⟨(0,()),by omega,trivial⟩ ?_ ?_
 .simp[Vs.LeL,Vs.look,Vs.aB,Vs.aR,Vs.aK,Vs.hset,Vs.aL,aKn,Vs.E]
 .rintro⟨⟨i,_⟩,hi,hg⟩;dsimp only at hi hg;simp -dsimp only[go_sem,hkl];refine Br.mk (λhc=>?_) λhc=>?_
  .have hlt:i<l.length:=Dq;have hw:=aH hlt hl.1;have hk:=oa _ (List.getElem_mem hlt);have hc:=(List.all_eq_true.1 ca) _ (List.getElem_mem hlt);have hs:=hl.2 _ (List.getElem_mem hlt);have hm:(E cSt (bK fr to l)).getD i []=[.v (.string (txt (fH fr to l[i])))]:=by rw[aQ (by omega)];simp[bK,cSt]
   have hm2:(E cC l).getD i []=[.sl 1 (E cI l[i])]:=aQ hlt;have hb1:=aH1 fr to (l.take i) o true;have hb2:=aH1 fr to (l.take i) o false;have ht:(l.take i).length=i:=by simp;omega
   have hl1:=hl.1;cases hz:wZ fr to o l[i]
   .have g1:=aH0 (e:=false) hlt hz;have g2:=aFE (e:=false) hlt hz;have g3:=aFD (e:=true) hlt hz
    repeat' first|simp -dsimp only[go_sem,hw,hm,hm2,hz,g1,hkl,cC]|apply Br.mk<;>intro h<;>try simp -dsimp only[h]|refine aD.c (by first|exact aKu o l[i] fr to ob cb hk hc hol|exact xQ l[i] hs) ?_|refine aC ?_|fail
    all_goals first|omega|(exact nx (i+1,()) trivial (h2:=by simp[Vs.LeL,Vs.look,Vs.aB,Vs.aR,Vs.aK,Vs.hset,Vs.aL,g2,g3]))
   .have g1:=aH0 (e:=true) hlt hz;have g2:=aFE (e:=true) hlt hz;have g3:=aFD (e:=false) hlt hz
    repeat' first|simp -dsimp only[go_sem,hw,hm,hm2,hz,g1,hkl,cC]|apply Br.mk<;>intro h<;>try simp -dsimp only[h]|refine aD.c (by first|exact aKu o l[i] fr to ob cb hk hc hol|exact xQ l[i] hs) ?_|refine aC ?_|fail
    all_goals first|omega|(exact nx (i+1,()) trivial (h2:=by simp[Vs.LeL,Vs.look,Vs.aB,Vs.aR,Vs.aK,Vs.hset,Vs.aL,g2,g3]))
  .have hge:i=l.length:=by
    have:¬i<l.length:=Dq;omega
   subst hge;simp -dsimp only[go_sem,hkl];rw[List.take_length];have k1:(E cC (mat fr to l o true)).take (mat fr to l o true).length=E cC (mat fr to l o true):=aBv _;have k2:(E cC (mat fr to l o false)).take (mat fr to l o false).length=E cC (mat fr to l o false):=aBv _;exact⟨⟨_,_,rfl,rfl⟩,λh=>h rfl⟩
def twV (fr to:Int) (a b d:List (List Int)):AV:=if jN fr to [a,b]=0 then .sl 1 (E cSt (bK fr to d)) else .v (.slice none 0 0)
theorem aHj (fr to:Int) (a b:List (List Int)):jN fr to [a,b]=if bA a&&bA b then(if dR fr to (bF a)&&dR fr to (bF b) then(if bP fr to a&&bP fr to b then 0 else 8) else 2) else 1:=by
 unfold jN;simp only[List.all_cons,List.all_nil,Bool.and_true]
theorem aEK (a b:List (List Int)) (fr to:Int) (J:bJ a) (L:bJ b):Fz F.rJ [.sl 1 (E cC a),.sl 1 (E cC b),.agg (cFd fr to)] (.tup [twV fr to a b a,twV fr to a b b,.v (.int .i64 (jN fr to [a,b]))]):=by
 have hc:=aHj fr to a b;cases da:bA a
 .refine fn0 Cd.s_l09Two_k λX=>?_
  repeat' first|simp -dsimp only[go_sem,cFd,da]|apply Br.mk<;>intro h<;>try simp -dsimp only[h]|refine aD.c (by first|exact cB a J.2 J.1|exact cB b L.2 L.1) ?_|refine aC ?_|fail
  all_goals simp_all [twV]
 cases db:bA b
 .refine fn0 Cd.s_l09Two_k λX=>?_
  repeat' first|simp -dsimp only[go_sem,cFd,da,db]|apply Br.mk<;>intro h<;>try simp -dsimp only[h]|refine aD.c (by first|exact cB a J.2 J.1|exact cB b L.2 L.1) ?_|refine aC ?_|fail
  all_goals simp_all [twV]
 cases fa:dR fr to (bF a)
 .refine fn0 Cd.s_l09Two_k λX=>?_
  repeat' first|simp -dsimp only[go_sem,cFd,da,db,fa]|apply Br.mk<;>intro h<;>try simp -dsimp only[h]|refine aD.c (by first|exact cB a J.2 J.1|exact cB b L.2 L.1|exact dV a|exact dV b|exact dH fr to (bF a)|exact dH fr to (bF b)) ?_|refine aC ?_|fail
  all_goals simp_all [twV]
 cases fb:dR fr to (bF b)
 .refine fn0 Cd.s_l09Two_k λX=>?_
  repeat' first|simp -dsimp only[go_sem,cFd,da,db,fa,fb]|apply Br.mk<;>intro h<;>try simp -dsimp only[h]|refine aD.c (by first|exact cB a J.2 J.1|exact cB b L.2 L.1|exact dV a|exact dV b|exact dH fr to (bF a)|exact dH fr to (bF b)) ?_|refine aC ?_|fail
  all_goals simp_all [twV]
 have Y:aY fr to a=if bP fr to a then 0 else 8:=by unfold aY;rw[da,fa];rfl
 have Z:aY fr to b=if bP fr to b then 0 else 8:=by unfold aY;rw[db,fb];rfl
 cases ca:bP fr to a<;>cases cb:bP fr to b
 .have H:aY fr to a=_:=Y;have I:aY fr to b=_:=Z;rw[ca] at H;rw[cb] at I;simp only[if_true,if_false,Bool.false_eq_true] at H I;have O:=jK a fr to J.2 J.1;have U:=jK b fr to L.2 L.1;simp only[mV,H,I,if_true,if_false,Int.reduceEq] at O U;refine fn0 Cd.s_l09Two_k λX=>?_;simp -dsimp only[go_sem,cFd,da,db,fa,fb]
  repeat' first|simp -dsimp only[go_sem,cFd,da,db,fa,fb,H,I]|apply Br.mk<;>intro h<;>try simp -dsimp only[h]|refine aD.c (by first|exact cB a J.2 J.1|exact cB b L.2 L.1|exact dV a|exact dV b|exact dH fr to (bF a)|exact dH fr to (bF b)|exact O|exact U) ?_|refine aC ?_|fail
  all_goals simp_all [twV,mV]
 .have H:aY fr to a=_:=Y;have I:aY fr to b=_:=Z;rw[ca] at H;rw[cb] at I;simp only[if_true,if_false,Bool.false_eq_true] at H I;have O:=jK a fr to J.2 J.1;have U:=jK b fr to L.2 L.1;simp only[mV,H,I,if_true,if_false,Int.reduceEq] at O U;refine fn0 Cd.s_l09Two_k λX=>?_;simp -dsimp only[go_sem,cFd,da,db,fa,fb]
  repeat' first|simp -dsimp only[go_sem,cFd,da,db,fa,fb,H,I]|apply Br.mk<;>intro h<;>try simp -dsimp only[h]|refine aD.c (by first|exact cB a J.2 J.1|exact cB b L.2 L.1|exact dV a|exact dV b|exact dH fr to (bF a)|exact dH fr to (bF b)|exact O|exact U) ?_|refine aC ?_|fail
  all_goals simp_all [twV,mV]
 .have H:aY fr to a=_:=Y;have I:aY fr to b=_:=Z;rw[ca] at H;rw[cb] at I;simp only[if_true,if_false,Bool.false_eq_true] at H I;have O:=jK a fr to J.2 J.1;have U:=jK b fr to L.2 L.1;simp only[mV,H,I,if_true,if_false,Int.reduceEq] at O U;refine fn0 Cd.s_l09Two_k λX=>?_;simp -dsimp only[go_sem,cFd,da,db,fa,fb]
  repeat' first|simp -dsimp only[go_sem,cFd,da,db,fa,fb,H,I]|apply Br.mk<;>intro h<;>try simp -dsimp only[h]|refine aD.c (by first|exact cB a J.2 J.1|exact cB b L.2 L.1|exact dV a|exact dV b|exact dH fr to (bF a)|exact dH fr to (bF b)|exact O|exact U) ?_|refine aC ?_|fail
  all_goals simp_all [twV,mV]
 .have H:aY fr to a=_:=Y;have I:aY fr to b=_:=Z;rw[ca] at H;rw[cb] at I;simp only[if_true,if_false,Bool.false_eq_true] at H I;have O:=jK a fr to J.2 J.1;have U:=jK b fr to L.2 L.1;simp only[mV,H,I,if_true,if_false,Int.reduceEq] at O U;refine fn0 Cd.s_l09Two_k λX=>?_;simp -dsimp only[go_sem,cFd,da,db,fa,fb]
  repeat' first|simp -dsimp only[go_sem,cFd,da,db,fa,fb,H,I]|apply Br.mk<;>intro h<;>try simp -dsimp only[h]|refine aD.c (by first|exact cB a J.2 J.1|exact cB b L.2 L.1|exact dV a|exact dV b|exact dH fr to (bF a)|exact dH fr to (bF b)|exact O|exact U) ?_|refine aC ?_|fail
  all_goals simp_all [twV,mV]
theorem wT (a b:List (List Int)) (fr to:Int) (I:bJ a) (J:bJ b):Fz F.mJ [.sl 1 (E cC a),.sl 1 (E cC b),.agg (cFd fr to)] (.tup [mtV fr to a b,.v (.int .i64 (mtC fr to a b))]):=by
 by_cases H:jN fr to [a,b]=0
 rotate_left
 .have e1:(jN fr to [a,b] != 0)=true:=by simp[H]
  refine fn0 Cd.s_MatchDecks_k λX=>?_
  repeat' first|simp -dsimp only[go_sem,cFd,e1]|apply Br.mk<;>intro h<;>try simp -dsimp only[h]|refine aD.c (by first|exact aEK a b fr to I J) ?_|refine aC ?_|fail
  all_goals simp[mtV,mtC,H]
 obtain⟨⟨da,db⟩,⟨fa,fb⟩,L,O⟩:=aCg H;have U:=eF da fa;have Y:=eF db fb;have va:twV fr to a b a=.sl 1 (E cSt (bK fr to a)):=by simp[twV,H]
 have vb:twV fr to a b b=.sl 1 (E cSt (bK fr to b)):=by simp[twV,H]
 have Z:=dC fr to a;have sb:=dC fr to b
 have CC:Fz F.rJ [.sl 1 (E cC a),.sl 1 (E cC b),.agg (cFd fr to)] (.tup [.sl 1 (E cSt (bK fr to a)),.sl 1 (E cSt (bK fr to b)),.v (.int .i64 0)]):=by
  have h:=aEK a b fr to I J;rw[va,vb,H] at h;exact h
 cases hs:iE fr to a&&iE fr to b
 .refine fn0 Cd.s_MatchDecks_k λX=>?_
  repeat' first|simp -dsimp only[go_sem,cFd,Z,sb]|apply Br.mk<;>intro h<;>try simp -dsimp only[h]|refine aD.c (by first|exact CC|exact bT a fr to U L I.1|exact bT b fr to Y O J.1) ?_|refine aC ?_|fail
  all_goals first|(simp_all [mtV,mtC];done)|(refine aU ?_;simp_all [mtV,mtC];done)
 have h1:iE fr to a=true:=by simp only[Bool.and_eq_true] at hs;exact hs.1
 have h2:iE fr to b=true:=by simp only[Bool.and_eq_true] at hs;exact hs.2
 rw[h1] at Z;rw[h2] at sb;refine fn0 Cd.s_MatchDecks_k λX=>?_;simp -dsimp only[go_sem,cFd,Z,sb]
 repeat' first|simp -dsimp only[go_sem,cFd,Z,sb,Bool.not_true,Bool.or_false,Bool.false_or,List.take_succ_cons,List.take_zero,List.drop_succ_cons,List.drop_zero]|apply Br.mk<;>intro h<;>try simp -dsimp only[h]|refine aD.c (by first|exact CC|exact bT a fr to U L I.1|exact bT b fr to Y O J.1|exact aFN a b fr to I J.1 U Y L O|exact aFN b a fr to J I.1 Y U O L) ?_|refine aC ?_|fail
 all_goals (have hz:mtC fr to a b=0:=by simp[mtC,H,hs]
            have hv:mtV fr to a b=.sl 1 (E cD (mtL fr to a b)):=by simp[mtV,hz]
            rw[hz,hv]
            first|exact⟨_,_,rfl,rfl⟩|(refine aU rfl)|trace_state)
end
section
variable [Vs.Envs]
attribute [local irreducible] Vs.Fn chOK areCh chTo chAt l03 chB rk cd3 chI stp stpTo stb oV
theorem aH8 (l:List Int) (H:l.length<=1048576):Vs.Fn Tryz.prog F.oP [] [.sl 1 (E cI l)] (.loc (.b 0) 0 l.length) [some (.arr 1 (E cI l) false)]:=by
 refine fn1 Cd.s_l00Own_k [.t 5 0] [.arr 1 (E cI l) false] λX=>?_;unfold Cd.oP
 repeat' first|simp -dsimp only[go_sem,aI,List.flatMap_cons,List.flatMap_nil,nC,uD,mO,List.getD_cons_zero,List.append_nil,List.nil_append,List.cons_append]|apply Br.mk<;>intro h<;>try simp -dsimp only[h]|refine aC ?_|fail
 all_goals first|exact⟨_,_,rfl,rfl⟩
def vS (cf:Int->Int->Int) (i:Int) (o:List Int):Nat->Nat
 |0=>0
 |k+1=>if cf i (o.getD k 0)<0 then vS cf i o k else k+1
theorem aJf (F:Int->Int->Int) (i:Int) (o:List Int):vS F i o 0=0:=rfl
theorem aBj (F:Int->Int->Int) (i:Int) (o:List Int) (k:Nat):vS F i o (k+1)=if F i (o.getD k 0)<0 then vS F i o k else k+1:=rfl
theorem aEU (F:Int->Int->Int) (i:Int) (o:List Int):∀k,vS F i o k<=k
 |0=>Nat.le_refl _
 | k+1=>by
  rw[vS];split
  .exact Nat.le_succ_of_le (aEU F i o k)
  .exact Nat.le_refl _
def eP (cf:Int->Int->Int):Nat->List Int
 |0=>[]
 |n+1=>(eP cf n).take (vS cf n (eP cf n) (eP cf n).length)++[(n:Int)]++(eP cf n).drop (vS cf n (eP cf n) (eP cf n).length)
theorem uY (F:Int->Int->Int):∀n,(eP F n).Perm (iota n)
 |0=>List.Perm.refl _
 | n+1=>by
  rw[eP,aDW];generalize vS F n (eP F n) (eP F n).length=k
  have H:((eP F n).take k++[(n:Int)]++(eP F n).drop k).Perm ((eP F n).take k++(eP F n).drop k++[(n:Int)]):=by
   rw[List.append_assoc,List.append_assoc];exact List.Perm.append_left _ List.perm_append_comm
  rw[List.take_append_drop] at H;exact H.trans (List.Perm.append_right _ (uY F n))
theorem aCy (F:Int->Int->Int) (n:Nat):(eP F n).length=n:=by rw[(uY F n).length_eq,sH]
end
section
variable [Vs.Envs]
attribute [local irreducible] Vs.Fn chOK areCh chTo chAt l03 chB rk cd3 chI stp stpTo stb oV eP vS
theorem aKy {fr to:Int}{l:List (List Int)}{x:Int} (h:inO l.length x):(E cSt (bK fr to l)).getD x.toNat []=[.v (.string (txt (fH fr to (l.getD x.toNat []))))]:=by
 have F:x.toNat<l.length:=by have:=h.1;have:=h.2;omega
 rw[aQ (by simpa[bK] using F)];simp[cSt,bK,List.getD,F]
attribute [local go_sem] aI List.mem_singleton List.mem_cons List.not_mem_nil or_false false_or Vs.Name.t.injEq List.length_take List.length_drop List.flatMap_cons List.flatMap_nil nC uD mO List.getD_cons_zero List.append_nil List.nil_append List.cons_append in
theorem aI2 (l:List (List Int)) (fr to:Int) (ho:∀c,c∈l->okF fr to c) (hall:bP fr to l=true) (hl:l.length<=40):Fz F.oO [.sl 1 (E cSt (bK fr to l))] (.sl 1 (E cI (eP (cfO fr to l) l.length))):=by
 have hkl:(E cSt (bK fr to l)).length=l.length:=by rw[aI];simp[bK]
 have hch:∀x,inO l.length x->bU (fH fr to (l.getD x.toNat []))=true:=λx hx=>List.all_eq_true.1 hall _ (mP hx)
 have hcp:∀x y,inO l.length x->inO l.length y->Fz F.eZ [.v (.string (txt (fH fr to (l.getD x.toNat [])))),.v (.string (txt (fH fr to (l.getD y.toNat []))))] (.v (.int .i64 (cfO fr to l x y))):=λx y hx hy =>
  wG _ _ (aAO (ho _ (mP hx))) (by rw[qD ho hx,qD ho hy]) (hch x hx) (hch y hy)
 have hke:∀x,inO l.length x->(E cSt (bK fr to l)).getD x.toNat []=[.v (.string (txt (fH fr to (l.getD x.toNat []))))]:=λx hx=>aKy hx;generalize E cSt (bK fr to l)=K at *
 generalize cfO fr to l=cf at *
 refine fn0 Cd.s_l07Places_k λX=>?_
 repeat' first|simp -dsimp only[go_sem,hkl]|apply Br.mk<;>intro h<;>try simp -dsimp only[h]|refine aC ?_|fail
 refine aN.at dM (X:={zz:Nat×(Unit) // zz.1<=l.length∧True}) (λzz=>[(3,.loc (.t 3 0) 0 zz.1.1),(4,.v (.int .i64 zz.1.1))]) (λzz=>[(.t 3 0,.arr 1 (E cI (eP cf zz.1.1)) false)]) (λzz=>l.length-zz.1.1) ⟨(0,()),by omega,trivial⟩ ?_ ?_
 .simp[Vs.LeL,Vs.look,Vs.aB,Vs.aR,Vs.aK,Vs.hset,Vs.aL,Vs.E,eP]
 .rintro⟨⟨i,_⟩,hi,hg⟩;dsimp only at hi hg;simp -dsimp only[go_sem,hkl];refine Br.mk (λhc=>?_) λhc=>?_
  .have hlt:i<l.length:=Dq;have hw:=aH hlt (by omega);have hpl:=aCy cf i
   have hpi:∀k,k<i->inO l.length ((eP cf i).getD k 0):=λk hk=>by
    have h1:=aB8 _ ((uY cf i).mem_iff.1 (eQ (by omega:k<(eP cf i).length)));exact⟨h1.1,by have:=h1.2;omega⟩
   have hii:inO l.length (i:Int):=⟨by omega,by omega⟩;have hki:=hke _ hii;rw[Int.toNat_natCast] at hki;have hps:eP cf (i+1)=(eP cf i).take (vS cf i (eP cf i) (eP cf i).length)++[(i:Int)]++(eP cf i).drop (vS cf i (eP cf i) (eP cf i).length):=by rw[eP]
   rw[hpl] at hps;have hdl:=aEU cf i (eP cf i) i;generalize eP cf i=o at *
   generalize hd:vS cf i o i=d at *
   simp -dsimp only[go_sem,hkl,hw];refine aN.at dM (X:={k:Nat // k<=i∧vS cf i o k=d}) (λk=>[(5,.v (.int .i64 (k.1:Nat)))]) (λk=>[]) (λk=>k.1) ⟨i,Nat.le_refl _,hd⟩ ?_ ?_
   .exact le0
   .rintro⟨k,hk,hkd⟩
    try dsimp only at hk hkd
    match k,hk,hkd with
    | 0,hk,hkd =>
     have e1:decide (((0:Nat):Int)>0)=false:=rfl;obtain rfl:d=0:=by rw[←hkd,aJf]
     simp -dsimp only[go_sem,e1];have htk:(E cI o).take (0)=E cI (o.take (0)):=by simp[E,List.map_take]
     have hdk:((E cI o).drop (0)).take (i-(0))=E cI (o.drop (0)):=by rw[List.take_of_length_le (by rw[List.length_drop,aI];omega)];simp[E,List.map_drop]
     have hlt2:(o.take (0)).length=0:=by first|(simp;done)|(simp;omega)
     have hdl2:(o.drop (0)).length=i-(0):=by rw[List.length_drop,hpl]
     have OW:=aH8 (o.take (0)) (by omega);rw[hlt2] at OW;have hap:E cI (o.take (0))++[[.v (.int .i64 (i:Int))]]=E cI (o.take (0)++[(i:Int)]):=by rw[aV];rfl
     have hfin:E cI (o.take (0)++[(i:Int)])++E cI (o.drop (0))=E cI (eP cf (i+1)):=by simp only[hps,aV]
     have hz:((((0:Nat):Int))-0).toNat=0:=by omega
     have hz2:((i:Int)-((0:Nat):Int)).toNat=i-(0):=by omega
     have hz3:(((0:Nat):Int)).toNat=0:=by omega
     have hfb:∀b,some b∈[some (Blk.arr 1 (E cI (o.take (0))) false)]->Vs.iD b:=by
      intro b hb;simp only[List.mem_singleton,Option.some.injEq] at hb;subst hb;exact aCb (λx=>rfl)
     refine RgK.mk rfl ?_;simp -dsimp only[go_sem,htk,hdk,hap,hfin,hw,hpl,hkl,e1];refine⟨⟨⟨by omega,by omega,by omega⟩,?_⟩,λh=>absurd rfl h⟩;simp only[hz,List.take_zero];refine aD.lend OW rfl hfb rfl ?_;have hf0:[AV.v (.int .i64 (i:Int))]::E cI o=E cI (eP cf (i+1)):=by simp only[hps];rfl
     have hnil:E cI []=[]:=rfl;have hta:(E cI o).take i=E cI o:=List.take_of_length_le (by rw[aI];omega);clear htk hdk hap hfin;simp -dsimp only[go_sem,hz,hz2,hz3,Nat.sub_zero,List.take_zero,List.replicate_succ,List.replicate_zero,List.flatten_cons,List.flatten_nil,List.set_cons_zero,List.length_cons,List.length_nil,List.length_append,hf0,hnil,hta,hw,hpl,hkl,e1]
     repeat' (refine aC ?_)
     have hsum:1+i=i+1:=by omega
     first
      |exact⟨⟨(i+1,()),by first|omega|exact⟨by omega,trivial⟩,trivial⟩,by simp[Vs.LeL,Vs.look,Vs.aB,Vs.aR,Vs.aK,Vs.hset,Vs.aL,hsum],by simp only;omega⟩

    | k+1,hk,hkd =>
     have e1:decide (((k+1:Nat):Int)>0)=true:=by first|(simp;done)|(simp;omega)
     have w1:IntKind.i64.wrap (((k+1:Nat):Int)-1)=(k:Int):=by rw[aO (by omega) (by omega)];omega
     have hj:=hpi k (by omega);have hj0:=hj.1;have hj1:=hj.2;have hkj:=hke _ hj;have hoj:(E cI o).getD k []=[.v (.int .i64 (o.getD k 0))]:=gM (by omega);have HC:=hcp _ _ hii hj;rw[Int.toNat_natCast] at HC;rw[aBj] at hkd;by_cases hneg:cf i (o.getD k 0)<0
     .have e2:decide (cf i (o.getD k 0)<0)=true:=decide_eq_true hneg;rw[if_pos hneg] at hkd;simp -dsimp only[go_sem,e1,e2]
      repeat' first|simp -dsimp only[go_sem,e1,e2,w1,hkj,hki,hoj,hkl,hpl]|apply Br.mk<;>intro h<;>try simp -dsimp only[h]|refine aD.c (by first|exact HC) ?_|refine aC ?_|fail
      all_goals first|(exact⟨⟨k,by omega,hkd⟩,by simp[Vs.LeL,Vs.look,Vs.aB,Vs.aR,Vs.aK,Vs.hset,Vs.aL],by simp only;omega⟩)|omega
     .have e2:decide (cf i (o.getD k 0)<0)=false:=decide_eq_false hneg;rw[if_neg hneg] at hkd;obtain rfl:d=k+1:=hkd.symm;simp -dsimp only[go_sem,e1,e2];have htk:(E cI o).take (k+1)=E cI (o.take (k+1)):=by simp[E,List.map_take]
      have hdk:((E cI o).drop (k+1)).take (i-(k+1))=E cI (o.drop (k+1)):=by rw[List.take_of_length_le (by rw[List.length_drop,aI];omega)];simp[E,List.map_drop]
      have hlt2:(o.take (k+1)).length=k+1:=by first|(simp;done)|(simp;omega)
      have hdl2:(o.drop (k+1)).length=i-(k+1):=by rw[List.length_drop,hpl]
      have OW:=aH8 (o.take (k+1)) (by omega);rw[hlt2] at OW;have hap:E cI (o.take (k+1))++[[.v (.int .i64 (i:Int))]]=E cI (o.take (k+1)++[(i:Int)]):=by rw[aV];rfl
      have hfin:E cI (o.take (k+1)++[(i:Int)])++E cI (o.drop (k+1))=E cI (eP cf (i+1)):=by simp only[hps,aV]
      have hz:((((k+1:Nat):Int))-0).toNat=k+1:=by omega
      have hz2:((i:Int)-((k+1:Nat):Int)).toNat=i-(k+1):=by omega
      have hz3:(((k+1:Nat):Int)).toNat=k+1:=by omega
      have hfb:∀b,some b∈[some (Blk.arr 1 (E cI (o.take (k+1))) false)]->Vs.iD b:=by
       intro b hb;simp only[List.mem_singleton,Option.some.injEq] at hb;subst hb;exact aCb (λx=>rfl)
      refine RgK.mk rfl ?_;simp -dsimp only[go_sem,htk,hdk,hap,hfin,hw,hpl,hkl,e1,e2,w1,hj0,hj1,hkj,hki,hoj];refine⟨⟨by omega,by omega⟩,⟨by omega,by omega⟩,aD.flat HC rfl ?_⟩;simp -dsimp only[go_sem,htk,hdk,hap,hfin,hw,hpl,hkl,e1,e2,w1,hj0,hj1,hkj,hki,hoj];refine⟨⟨⟨by omega,by omega,by omega⟩,?_⟩,λh=>absurd rfl h⟩;simp only[hz,htk];refine aD.lend OW rfl hfb rfl ?_;simp -dsimp only[go_sem,hz,hz2,hz3,Nat.sub_zero,List.take_zero,List.replicate_succ,List.replicate_zero,List.flatten_cons,List.flatten_nil,List.set_cons_zero,List.length_cons,List.length_nil,List.length_append,htk,hdk,hap,hfin,hlt2,hdl2,hw,hpl,hkl]
      repeat' (refine aC ?_)
      have hsum:k+1+1+(i-(k+1))=i+1:=by omega
      first
       |exact⟨⟨(i+1,()),by first|omega|exact⟨by omega,trivial⟩,trivial⟩,by simp[Vs.LeL,Vs.look,Vs.aB,Vs.aR,Vs.aK,Vs.hset,Vs.aL,hsum],by simp only;omega⟩

  .have hge:i=l.length:=by
    have:¬i<l.length:=Dq;omega
   subst hge;simp -dsimp only[go_sem,hkl];have hpl:=aCy cf l.length;have htk:(E cI (eP cf l.length)).take l.length=E cI (eP cf l.length):=List.take_of_length_le (by rw[aI];omega)
   first|exact⟨⟨_,_,rfl,rfl⟩,λh=>h rfl⟩|(rw[htk];exact⟨⟨_,_,rfl,rfl⟩,λh=>h rfl⟩)|(simp[htk];done)
end
section
variable [Vs.Envs]
attribute [local irreducible] Vs.Fn chOK areCh chTo chAt l03 chB rk cd3 chI stp stpTo
theorem aIg (F:Int->Int->Int) (i:Int) (o:List Int):∀K k,vS F i o K<=k->k<K->F i (o.getD k 0)<0
 |0,k,_,h=>by omega
 | K+1,k,h1,h2=>by
  rw[aBj] at h1;split at h1
  .rename_i I;by_cases H:k=K
   .subst H;exact I
   .exact aIg F i o K k h1 (by omega)
  .omega
theorem aIf (F:Int->Int->Int) (i:Int) (o:List Int):∀K,0<vS F i o K->¬F i (o.getD (vS F i o K-1) 0)<0
 |0,h=>by simp[vS] at h
 | K+1,h=>by
  rw[aBj] at h⊢;split
  .rename_i H;rw[if_pos H] at h;exact aIf F i o K h
  .rename_i H;exact H
theorem aFu {fr to:Int}{l:List (List Int)} (ho:∀c,c∈l->okF fr to c):∀n,n<=l.length->(eP (cfO fr to l) n).Pairwise (xM fr to l)
 |0,_=>List.Pairwise.nil
 | n+1,h=>by
  have ih:=aFu ho n (by omega);have hin:∀x,x∈eP (cfO fr to l) n->inO n x:=λx J=>aB8 x ((uY _ n).mem_iff.1 J);have hh:=aCy (cfO fr to l) n;rw[eP];have hc:=aIg (cfO fr to l) n (eP (cfO fr to l) n) (eP (cfO fr to l) n).length;have he:=aIf (cfO fr to l) n (eP (cfO fr to l) n) (eP (cfO fr to l) n).length;have hl:=aEU (cfO fr to l) n (eP (cfO fr to l) n) (eP (cfO fr to l) n).length;generalize vS (cfO fr to l) n (eP (cfO fr to l) n) (eP (cfO fr to l) n).length=d at *
  generalize eP (cfO fr to l) n=o at *
  have hn:inO l.length (n:Int):=⟨by omega,by omega⟩;have I:∀x,inO n x->inO l.length x:=λx J=>⟨J.1,by have:=J.2;omega⟩
  have Z:∀y,y∈o.drop d->xM fr to l n y:=by
   intro y hy;obtain⟨j,hj,rfl⟩:=List.mem_iff_getElem.1 hy;rw[List.length_drop] at hj;rw[List.getElem_drop];have hm:o[d+j]∈o:=List.getElem_mem _;have O:=hc (d+j) (by omega) (by omega);have e:o.getD (d+j) 0=o[d+j]:=by simp[List.getD,(by omega:d+j<o.length)]
   rw[e] at O;exact⟨⟨hn,I _ (hin _ hm)⟩,.inl O⟩
  have hf:∀x,x∈o.take d->xM fr to l x n:=by
   intro x J;obtain⟨j,hj,rfl⟩:=List.mem_take_iff_getElem.1 J;have hk:j<d:=by omega
   have L:d-1<o.length:=by omega
   have O:=he (by omega);have e:o.getD (d-1) 0=o[d-1]:=by simp[List.getD,L]
   rw[e] at O;have hm:o[d-1]∈o:=List.getElem_mem _;have H:=hin _ hm;have Y:=aCh ho hn (I _ H)
   have F:xM fr to l o[d-1] n:=by
    refine⟨⟨I _ H,hn⟩,?_⟩;by_cases h0:cfO fr to l o[d-1] n=0
    .exact .inr ⟨h0,H.2⟩
    .exact .inl (by omega)
   by_cases hd:j=d-1
   .subst hd;exact F
   .exact lL ho _ _ _ (List.pairwise_iff_getElem.1 ih j (d-1) (by omega) L (by omega)) F
  have hg:(o.take d++o.drop d).Pairwise (xM fr to l):=by rw[List.take_append_drop];exact ih
  obtain⟨p1,p2,p3⟩:=List.pairwise_append.1 hg;rw[List.append_assoc,List.pairwise_append];refine⟨p1,?_,?_⟩
  .rw[List.singleton_append,List.pairwise_cons];exact⟨Z,p2⟩
  .intro a Y b U;rw[List.singleton_append,List.mem_cons] at U;rcases U with rfl|U
   .exact hf a Y
   .exact p3 a Y b U
theorem aLO {fr to:Int}{l:List (List Int)} (F:∀c,c∈l->okF fr to c) (I:l.length<=40):eP (cfO fr to l) l.length=oV fr to l:=by
 obtain⟨H,h2⟩:=aCA F I;exact aEv (lL F) (aA6 F) ((uY _ _).trans H.symm) (aFu F _ (Nat.le_refl _)) h2
end
section
variable [Vs.Envs]
attribute [local irreducible] Vs.Fn chOK areCh chTo chAt l03 chB rk cd3 chI stp stpTo stb oV eP vS
attribute [local go_sem] aI List.replicate_succ List.replicate_zero List.flatten_cons List.flatten_nil List.cons_append List.nil_append List.set_cons_zero List.set_cons_succ List.length_cons List.length_nil List.length_set
theorem aJP (l:List (List Int)) (fr to:Int) (U:∀x,x∈l->x.length<=1048576) (O:l.length<=1048576):Fz F.sK [.sl 1 (E cC l),.agg (cFd fr to)] (.v (.int .i64 (aY fr to l))):=by
 have I:=lT l U O;have J:=kF l;have H:=wI fr to (bF l);cases hd:bA l
 .rw[hd] at I;rw[show aY fr to l=1 by simp[aY,hd]];refine fn0 Cd.i_sortCode_k λX=>?_
  repeat' first|simp -dsimp only[go_sem,cC,cFd]|apply Br.mk<;>intro h<;>try simp -dsimp only[h]|refine aD.c (by first|exact I|exact J|exact H) ?_|refine aC ?_|fail
  all_goals first|exact⟨_,_,rfl,rfl⟩|simp
 rw[hd] at I;cases hf:dR fr to (bF l)
 .rw[hf] at H;rw[show aY fr to l=2 by simp[aY,hd,hf]];refine fn0 Cd.i_sortCode_k λX=>?_
  repeat' first|simp -dsimp only[go_sem,cC,cFd]|apply Br.mk<;>intro h<;>try simp -dsimp only[h]|refine aD.c (by first|exact I|exact J|exact H) ?_|refine aC ?_|fail
  all_goals first|exact⟨_,_,rfl,rfl⟩|simp
 rw[hf] at H;have L:=qY l fr to (eF hd hf) O;cases ha:bP fr to l
 .rw[ha] at L;rw[show aY fr to l=8 by simp[aY,hd,hf,ha]];refine fn0 Cd.i_sortCode_k λX=>?_
  repeat' first|simp -dsimp only[go_sem,cC,cFd]|apply Br.mk<;>intro h<;>try simp -dsimp only[h]|refine aD.c (by first|exact I|exact J|exact H|exact L) ?_|refine aC ?_|fail
  all_goals first|exact⟨_,_,rfl,rfl⟩|simp
 rw[ha] at L;rw[show aY fr to l=0 by simp[aY,hd,hf,ha]];refine fn0 Cd.i_sortCode_k λX=>?_
 repeat' first|simp -dsimp only[go_sem,cC,cFd]|apply Br.mk<;>intro h<;>try simp -dsimp only[h]|refine aD.c (by first|exact I|exact J|exact H|exact L) ?_|refine aC ?_|fail
 all_goals first|exact⟨_,_,rfl,rfl⟩|simp
def pY (fr to:Int) (l:List (List Int)):AV:=if aY fr to l=0 then .sl 1 (E cC (gQ fr to l)) else .v (.slice none 0 0)
theorem aB7 {fr to:Int}{l:List (List Int)} (h:aY fr to l=0):bA l=true∧dR fr to (bF l)=true∧bP fr to l=true:=by
 unfold aY at h;cases hd:bA l<;>cases hf:dR fr to (bF l)<;>cases ha:bP fr to l<;>simp[hd,hf,ha] at h⊢
theorem kM {l:List (List Int)} (h:bA l=true):l.length<=40:=by
 simp only[bA,Bool.and_eq_true,decide_eq_true_eq] at h;exact h.2
theorem aDx (l:List (List Int)) (fr to:Int) (Z:∀x,x∈l->x.length<=1048576) (Y:l.length<=1048576):Fz F.sS [.sl 1 (E cC l),.agg (cFd fr to)] (.tup [pY fr to l,.v (.int .i64 (aY fr to l))]):=by
 have I:=aJP l fr to Z Y;by_cases H:aY fr to l=0
 .obtain⟨J,U,ha⟩:=aB7 H;have L:=aAi l fr to (eF J U) (kM J);rw[show pY fr to l=.sl 1 (E cC (gQ fr to l)) by simp[pY,H],H];rw[H] at I;refine fn0 Cd.i_SortedBy_k λX=>?_
  repeat' first|simp -dsimp only[go_sem,cC,cFd]|apply Br.mk<;>intro h<;>try simp -dsimp only[h]|refine aD.c (by first|exact I|exact L) ?_|refine aC ?_|fail
  all_goals first|exact⟨_,_,rfl,rfl⟩|simp
 .have O:(aY fr to l != 0)=true:=by simp[H]
  rw[show pY fr to l=.v (.slice none 0 0) by simp[pY,H]];generalize aY fr to l=c at *
  refine fn0 Cd.i_SortedBy_k λX=>?_
  repeat' first|simp -dsimp only[go_sem,cC,cFd,O]|apply Br.mk<;>intro h<;>try simp -dsimp only[h]|refine aD.c (by first|exact I) ?_|refine aC ?_|fail
  all_goals first|exact⟨_,_,rfl,rfl⟩|simp
theorem zG (l:List (List Int)) (fr to:Int) (hs:∀x,x∈l->x.length<=1048576) (hl:l.length<=1048576):Fz F.rQ [.sl 1 (E cC l),.agg (cFd fr to)] (.tup [pY fr to l,.v (.int .i64 (aY fr to l))]):=by
 have KS:=jK l fr to hs hl;by_cases h0:aY fr to l=0
 .obtain⟨hd,hf,ha⟩:=aB7 h0;have ho:=eF hd hf;have h40:=kM hd;have PL:=aI2 l fr to ho ha h40;rw[aLO ho h40] at PL;rw[show pY fr to l=.sl 1 (E cC (gQ fr to l)) by simp[pY,h0],h0];rw[show mV fr to l=.sl 1 (E cSt (bK fr to l)) by simp[mV,h0],h0] at KS;have hol:=xN fr to l;have hoi:=aED ho h40;rw[show gQ fr to l=(oV fr to l).map (λi=>l.getD i.toNat []) from rfl];generalize oV fr to l=o at *
  refine fn0 Cd.s_SortedBy_k λX=>?_
  repeat' first|simp -dsimp only[go_sem,cC,cFd]|apply Br.mk<;>intro h<;>try simp -dsimp only[h]|refine aD.c (by first|exact KS|exact PL) ?_|refine aC ?_|fail
  refine aN.at dM (X:={zz:Nat×(Unit) // zz.1<=o.length∧True}) (λzz=>[(9,.loc (.t 9 0) 0 zz.1.1),(10,.v (.int .i64 zz.1.1))]) (λzz=>[(.t 9 0,.arr 1 (E cC ((o.take zz.1.1).map λi=>l.getD i.toNat [])) false)]) (λzz=>o.length-zz.1.1) ⟨(0,()),by omega,trivial⟩ ?_ ?_
  .simp[Vs.LeL,Vs.look,Vs.aB,Vs.aR,Vs.aK,Vs.hset,Vs.aL,Vs.E]
  .rintro⟨⟨i,_⟩,hi,hg⟩;dsimp only at hi hg;simp -dsimp only[go_sem,cC,cFd];refine Br.mk (λhc=>?_) λhc=>?_
   .have hlt:i<o.length:=Dq;have hw:=aH hlt (by omega);have hx:=hoi _ (List.getElem_mem hlt);have gx:=aBq hx;have hm:=mP hx;have hc20:(l.getD o[i].toNat []).length<=20:=(ho _ hm).2.2.2;have NC:=xQ (l.getD o[i].toNat []) (by omega);have x0:=hx.1;have x1:=hx.2
    have hap:E cC ((o.take i).map λi=>l.getD i.toNat [])++[[.sl 1 (E cI (l.getD o[i].toNat []))]]=E cC ((o.take (i+1)).map λi=>l.getD i.toNat []):=by
     rw[bB hlt,List.map_append,aV];rfl
    have hal:(E cC ((o.take i).map λi=>l.getD i.toNat [])).length=i:=by rw[aI];simp;omega
    repeat' first|simp -dsimp only[go_sem,bY hlt,hw,hap,hal,gx,cC,cFd]|apply Br.mk<;>intro h<;>try simp -dsimp only[h]|refine aD.c (by first|exact NC) ?_|refine aC ?_|fail
    all_goals first|omega|(exact nx (i+1,()) trivial (h2:=by simp[Vs.LeL,Vs.look,Vs.aB,Vs.aR,Vs.aK,Vs.hset,Vs.aL,hap]))
   .have hge:i=o.length:=by
     have:¬i<o.length:=Dq;omega
    subst hge;simp -dsimp only[go_sem,cC,cFd]
    have htk:(E cC ((o.take o.length).map λi=>l.getD i.toNat [])).take o.length=E cC (o.map λi=>l.getD i.toNat []):=by
     rw[List.take_of_length_le (Nat.le_refl o.length)];exact List.take_of_length_le (by rw[aI];simp)
    first|exact⟨⟨_,_,rfl,rfl⟩,λh=>h rfl⟩|(rw[htk];exact⟨⟨_,_,rfl,rfl⟩,λh=>h rfl⟩)|(simp[htk];done)
 .have e0:(aY fr to l != 0)=true:=by simp[h0]
  rw[show pY fr to l=.v (.slice none 0 0) by simp[pY,h0]];rw[show mV fr to l=.v (.slice none 0 0) by simp[mV,h0]] at KS;generalize aY fr to l=c at *
  refine fn0 Cd.s_SortedBy_k λX=>?_
  repeat' first|simp -dsimp only[go_sem,cC,cFd,e0]|apply Br.mk<;>intro h<;>try simp -dsimp only[h]|refine aD.c (by first|exact KS) ?_|refine aC ?_|fail
  all_goals first|exact⟨_,_,rfl,rfl⟩|simp
end
end Go.Proofs.YtmiiohemehacjaaGreatDoor
