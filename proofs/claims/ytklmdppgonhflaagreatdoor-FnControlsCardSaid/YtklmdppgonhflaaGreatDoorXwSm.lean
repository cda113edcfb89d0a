/- SortedBy: the program and the reference. -/
import Derived.Test.YtklmdppgonhflaaGreatDoorXwSh
import Derived.Test.YtklmdppgonhflaaGreatDoorVtR
import Derived.Test.YtklmdppgonhflaaGreatDoorXwQb
set_option linter.all false
set_option maxHeartbeats 8000000
namespace Go.Proofs.YtklmdppgonhflaaGreatDoor
open Go.Vs
section
variable [Vs.Envs]
attribute [local irreducible] Vs.Fn dJ bB dK dL l03 chB rk cd3 chI stp bD flt uW zR aBx mat kZ jC stF
attribute [local go_sem] Af Ag Ao Aq Ae Aj Ad Al Ac Ai Ap
theorem aIW:∀{a b:List Int},a.length=b.length->cK a=true->cK b=true->(jM a b=0↔a=b)
 | [],[],_,_,_=>by simp[jM]
 | [],y::b,h,_,_=>by simp at h
 |x::a,[],h,_,_=>by simp at h
 | x::a,y::b,h,ha,hb=>by
  simp only[cK,BJ,Aw,Bb] at ha hb;have H:=aIW (a:=a) (b:=b) (by simpa using h) (by simpa[cK] using ha.2) (by simpa[cK] using hb.2);rw[jM];by_cases F:rk x<rk y
  .rw[AP F];refine⟨λh=>by simp at h,λh=>?_⟩;simp only[List.cons.injEq] at h;rw[h.1] at F;omega
  .rw[AC F];by_cases h2:rk x>rk y
   .rw[AP h2];refine⟨λh=>by simp at h,λh=>?_⟩;simp only[List.cons.injEq] at h;rw[h.1] at h2;omega
   .rw[AC h2,H];have G:x=y:=aKL ha.1 (by omega);simp[G]
theorem aMn {a b:List Int} (O:a.length=b.length) (H:cK a=true) (I:cK b=true) (h:(txt a).data.toList=(txt b).data.toList):a=b:=by
 apply List.ext_getElem O;intro i G h2;have F:=aEZ H G;have J:=aEZ I h2;rw[h,J] at F;have V:=aDd a[i];have Y:=aDd b[i];have M:=wI H G;have U:=wI I h2;have:=aIX (rk b[i]).toNat (by omega) (rk a[i]).toNat (by omega) F;exact aKL M (by omega)
theorem aEY {a b:List Int} (H:a.length=b.length) (F:cK a=true) (G:cK b=true):((txt a).toList==(txt b).toList)=(jM a b==0):=by
 rw[ByteArray.toList_eq,ByteArray.toList_eq];have h:=aIW H F G;by_cases e:a=b
 .subst e;have:jM a a=0:=h.2 rfl;simp[this]
 .have M:¬jM a b=0:=λh'=>e (h.1 h');have h2:¬(txt a).data.toList=(txt b).data.toList:=λh'=>e (aMn H F G h');have I:((txt a).data.toList==(txt b).data.toList)=false:=AB.2 h2;have J:(jM a b==0)=false:=AB.2 M;rw[I,J]
theorem aOz (l:List Int) (G:l.length<=1048576):Fz F.qO [.sl 1 (E cI l)] (.sl 1 (E cI l)):=by
 refine fn0 Cd.s_l00Own_k λX=>?_;simp -dsimp only[go_sem]
 first
  |exact⟨by omega,rfl,⟨rfl,by omega,by omega⟩,_,_,rfl,rfl⟩
  |exact⟨by omega,rfl,⟨by omega,by omega⟩,_,_,rfl,rfl⟩
  |exact⟨⟨by omega,by omega⟩,⟨by omega,by omega⟩,_,_,rfl,rfl⟩
theorem yT (c:List Int) (G:c.length<=1048576):Fz F.jO [.ro (cC c)] (.agg (cC c)):=by
 refine fn0 Cd.s_l02Own_k λX=>?_
 repeat' first|simp -dsimp only[go_sem,cC,cFd]|apply Br.mk<;>intro h<;>try simp -dsimp only[h]|refine aA.c (by first|exact aOz c G) ?_|refine aC ?_|refine aC9 ?_|fail
 all_goals(exact⟨_,_,rfl,rfl⟩)
theorem vS (fr to:Int) (l:List (List Int)):(bV fr to l).length=l.length:=by simp[bV]
attribute [local go_sem] aH cFd in
theorem aLn (o:List (List Int)) (x:List Int) (fr to:Int) (ho:∀c,c∈o->okF fr to c) (hh:bX fr to o=true) (hx:okF fr to x) (hxh:cK (fH fr to x)=true) (hl:o.length<=1048576) :
  Fz F.yG [.sl 1 (E cSt (bV fr to o)),.v (.string (txt (fH fr to x)))] (.v (.bool (x8 fr to o x))):=by
 have hkl:=vS fr to o;refine fn0 Cd.s_l09Has_k λX=>?_;simp -dsimp only[go_sem,hkl];refine aP.at dM (X:={zz:Nat×(Unit) // zz.1<=o.length∧(o.take zz.1).all (λc=>!(cmF fr to c x==0))=true}) (λzz=>[(5,.v (.int .i64 zz.1.1))]) (λzz=>[]) (λzz=>o.length-zz.1.1) ⟨(0,()),by omega,by simp⟩ ?_ ?_
 .exact le0
 .rintro⟨⟨i,_⟩,hi,hg⟩;dsimp only at hi hg;simp -dsimp only[go_sem,hkl];refine Br.mk (λhc=>?_) λhc=>?_
  .have hlt:i<o.length:=Dq;have hw:=aJ hlt hl;have hk:=ho _ (Aa hlt);have hc:=(Az.1 hh) _ (Aa hlt);have hm:(E cSt (bV fr to o)).getD i []=[.v (.string (txt (fH fr to o[i])))]:=by rw[aW (by omega)];simp[bV,cSt]
   have he:=aEY ((mE hk).trans (mE hx).symm) hc hxh;cases hz:jM (fH fr to o[i]) (fH fr to x)==0
   .have hp:(cmF fr to o[i] x==0)=false:=hz
    repeat' first|simp -dsimp only[go_sem,hw,hm,he,hz,hkl]|apply Br.mk<;>intro h<;>try simp -dsimp only[h]|refine aC ?_|refine aC9 ?_|fail
    all_goals first|omega|(exact nx (i+1,()) (bH (p:=λc=>!(cmF fr to c x==0)) hlt hg (by simp[hp])))
   .have hp:(cmF fr to o[i] x==0)=true:=hz;have hany:x8 fr to o x=true:=List.any_eq_true.2 ⟨o[i],Aa hlt,hp⟩
    repeat' first|simp -dsimp only[go_sem,hw,hm,he,hz,hkl]|apply Br.mk<;>intro h<;>try simp -dsimp only[h]|refine aC ?_|refine aC9 ?_|fail
    all_goals first|omega|(refine aR ?_;simp[hany];done)|(simp[hany];done)
  .have hge:i=o.length:=by
    have:¬i<o.length:=Dq;omega
   subst hge;simp -dsimp only[go_sem,hkl]
   have hany:x8 fr to o x=false:=by
    unfold x8;rw[List.any_eq_false];intro c hc;rw[Bw] at hg;have:=(Az.1 hg) c hc;simpa using this
   simp[hany]
theorem aDA {fr to:Int}{l o:List (List Int)}{e:Bool}{i:Nat} (h:i<l.length):mat fr to (l.take (i+1)) o e=mat fr to (l.take i) o e++(if x8 fr to o l[i]==e then[l[i]] else[]):=by
 unfold mat;rw[zK h];cases x8 fr to o l[i]==e<;>simp
theorem aIA (fr to:Int) (l o:List (List Int)) (e:Bool):(mat fr to l o e).length<=l.length:=by unfold mat;exact aAq ..
theorem aLe (fr to:Int) (o:List (List Int)) (e:Bool):mat fr to [] o e=[]:=by unfold mat flt;rfl
theorem aIz {fr to:Int}{l o:List (List Int)}{e:Bool}{i:Nat} (h:i<l.length) (hh:x8 fr to o l[i]=e):E cC (mat fr to (l.take i) o e)++[[.sl 1 (E cI l[i])]]=E cC (mat fr to (l.take (i+1)) o e):=by
 rw[aDA h,hh,aV];simp[E,cC]
theorem aGd {fr to:Int}{l o:List (List Int)}{e:Bool}{i:Nat} (h:i<l.length) (hh:x8 fr to o l[i]=e):(mat fr to (l.take (i+1)) o e).length=(mat fr to (l.take i) o e).length+1:=by
 rw[aDA h,hh];simp
theorem aGc {fr to:Int}{l o:List (List Int)}{e:Bool}{i:Nat} (h:i<l.length) (hh:x8 fr to o l[i] = !e):mat fr to (l.take (i+1)) o e=mat fr to (l.take i) o e:=by
 rw[aDA h,hh];cases e<;>simp
attribute [local go_sem] aH cFd in
theorem aGk (l o:List (List Int)) (fr to:Int) (hl:bO l) (hol:o.length<=1048576) (oa:∀c,c∈l->okF fr to c) (ob:∀c,c∈o->okF fr to c) (ca:bX fr to l=true) (cb:bX fr to o=true) :
  Fz F.pV [.sl 1 (E cC l),.sl 1 (E cSt (bV fr to l)),.sl 1 (E cSt (bV fr to o))] (.tup [.sl 1 (E cC (mat fr to l o true)),.sl 1 (E cC (mat fr to l o false))]):=by
 have hkl:=vS fr to l;have hkm:=vS fr to o;refine fn0 Cd.s_l09Match_k λX=>?_;simp -dsimp only[go_sem,hkl,hkm];refine⟨⟨by omega,by omega⟩,⟨by omega,by omega⟩,?_⟩;refine aP.at dM (X:={zz:Nat×(Unit) // zz.1<=l.length∧True}) (λzz=>[(8,.loc (.t 8 0) 0 (mat fr to (l.take zz.1.1) o true).length),(9,.loc (.t 9 0) 0 (mat fr to (l.take zz.1.1) o false).length),(10,.v (.int .i64 zz.1.1))]) (λzz=>[(.t 8 0,.arr 1 (E cC (mat fr to (l.take zz.1.1) o true)) false),(.t 9 0,.arr 1 (E cC (mat fr to (l.take zz.1.1) o false)) false)]) (λzz=>l.length-zz.1.1) ⟨(0,()),by omega,trivial⟩ ?_ ?_
 .simp[Vs.LeL,Vs.look,aB,aQ,aK,Vs.hset,aL,aLe,Vs.E]
 .rintro⟨⟨i,_⟩,hi,hg⟩;dsimp only at hi hg;simp -dsimp only[go_sem,hkl];refine Br.mk (λhc=>?_) λhc=>?_
  .have hlt:i<l.length:=Dq;have hw:=aJ hlt hl.1;have hk:=oa _ (Aa hlt);have hc:=(Az.1 ca) _ (Aa hlt);have hs:=hl.2 _ (Aa hlt);have hm:(E cSt (bV fr to l)).getD i []=[.v (.string (txt (fH fr to l[i])))]:=by rw[aW (by omega)];simp[bV,cSt]
   have hm2:(E cC l).getD i []=[.sl 1 (E cI l[i])]:=aW hlt;have hb1:=aIA fr to (l.take i) o true;have hb2:=aIA fr to (l.take i) o false;have ht:(l.take i).length=i:=by simp;omega
   have hl1:=hl.1;cases hz:x8 fr to o l[i]
   .have g1:=aIz (e:=false) hlt hz;have g2:=aGd (e:=false) hlt hz;have g3:=aGc (e:=true) hlt hz
    repeat' first|simp -dsimp only[go_sem,hw,hm,hm2,hz,g1,hkl,cC]|apply Br.mk<;>intro h<;>try simp -dsimp only[h]|refine aA.c (by first|exact aLn o l[i] fr to ob cb hk hc hol|exact yT l[i] hs) ?_|refine aC ?_|refine aC9 ?_|fail
    all_goals first|omega|(exact nx (i+1,()) trivial (h2:=by simp[Vs.LeL,Vs.look,aB,aQ,aK,Vs.hset,aL,g2,g3]))
   .have g1:=aIz (e:=true) hlt hz;have g2:=aGd (e:=true) hlt hz;have g3:=aGc (e:=false) hlt hz
    repeat' first|simp -dsimp only[go_sem,hw,hm,hm2,hz,g1,hkl,cC]|apply Br.mk<;>intro h<;>try simp -dsimp only[h]|refine aA.c (by first|exact aLn o l[i] fr to ob cb hk hc hol|exact yT l[i] hs) ?_|refine aC ?_|refine aC9 ?_|fail
    all_goals first|omega|(exact nx (i+1,()) trivial (h2:=by simp[Vs.LeL,Vs.look,aB,aQ,aK,Vs.hset,aL,g2,g3]))
  .have hge:i=l.length:=by
    have:¬i<l.length:=Dq;omega
   subst hge;simp -dsimp only[go_sem,hkl];rw[Bw];have k1:(E cC (mat fr to l o true)).take (mat fr to l o true).length=E cC (mat fr to l o true):=aCa _;have k2:(E cC (mat fr to l o false)).take (mat fr to l o false).length=E cC (mat fr to l o false):=aCa _;exact⟨⟨_,_,rfl,rfl⟩,λh=>h rfl⟩
def twV (fr to:Int) (a b d:List (List Int)):AV:=if kZ fr to [a,b]=0 then .sl 1 (E cSt (bV fr to d)) else .v (.slice none 0 0)
theorem aHQ (fr to:Int) (a b:List (List Int)):kZ fr to [a,b]=if bC a&&bC b then(if dW fr to (bK a)&&dW fr to (bK b) then(if bX fr to a&&bX fr to b then 0 else 8) else 2) else 1:=by
 unfold kZ;simp only[BJ,DL,Bool.and_true]
theorem aFn (a b:List (List Int)) (fr to:Int) (I:bO a) (J:bO b):Fz F.sP [.sl 1 (E cC a),.sl 1 (E cC b),.agg (cFd fr to)] (.tup [twV fr to a b a,twV fr to a b b,.v (.int .i64 (kZ fr to [a,b]))]):=by
 have Y:=aHQ fr to a b;cases da:bC a
 .refine fn0 Cd.s_l09Two_k λX=>?_
  repeat' first|simp -dsimp only[go_sem,cFd,da]|apply Br.mk<;>intro h<;>try simp -dsimp only[h]|refine aA.c (by first|exact dC a I.2 I.1|exact dC b J.2 J.1) ?_|refine aC ?_|refine aC9 ?_|fail
  all_goals simp_all [twV]
 cases db:bC b
 .refine fn0 Cd.s_l09Two_k λX=>?_
  repeat' first|simp -dsimp only[go_sem,cFd,da,db]|apply Br.mk<;>intro h<;>try simp -dsimp only[h]|refine aA.c (by first|exact dC a I.2 I.1|exact dC b J.2 J.1) ?_|refine aC ?_|refine aC9 ?_|fail
  all_goals simp_all [twV]
 cases fa:dW fr to (bK a)
 .refine fn0 Cd.s_l09Two_k λX=>?_
  repeat' first|simp -dsimp only[go_sem,cFd,da,db,fa]|apply Br.mk<;>intro h<;>try simp -dsimp only[h]|refine aA.c (by first|exact dC a I.2 I.1|exact dC b J.2 J.1|exact dY a|exact dY b|exact dZ fr to (bK a)|exact dZ fr to (bK b)) ?_|refine aC ?_|refine aC9 ?_|fail
  all_goals simp_all [twV]
 cases fb:dW fr to (bK b)
 .refine fn0 Cd.s_l09Two_k λX=>?_
  repeat' first|simp -dsimp only[go_sem,cFd,da,db,fa,fb]|apply Br.mk<;>intro h<;>try simp -dsimp only[h]|refine aA.c (by first|exact dC a I.2 I.1|exact dC b J.2 J.1|exact dY a|exact dY b|exact dZ fr to (bK a)|exact dZ fr to (bK b)) ?_|refine aC ?_|refine aC9 ?_|fail
  all_goals simp_all [twV]
 have U:bL fr to a=if bX fr to a then 0 else 8:=by unfold bL;rw[da,fa];rfl
 have V:bL fr to b=if bX fr to b then 0 else 8:=by unfold bL;rw[db,fb];rfl
 cases ca:bX fr to a<;>cases cb:bX fr to b
 .have G:bL fr to a=_:=U;have H:bL fr to b=_:=V;rw[ca] at G;rw[cb] at H;simp only[Bj,Bc,AO] at G H;have M:=kV a fr to I.2 I.1;have O:=kV b fr to J.2 J.1;simp only[oN,G,H,Bj,Bc,Int.reduceEq] at M O;refine fn0 Cd.s_l09Two_k λX=>?_;simp -dsimp only[go_sem,cFd,da,db,fa,fb]
  repeat' first|simp -dsimp only[go_sem,cFd,da,db,fa,fb,G,H]|apply Br.mk<;>intro h<;>try simp -dsimp only[h]|refine aA.c (by first|exact dC a I.2 I.1|exact dC b J.2 J.1|exact dY a|exact dY b|exact dZ fr to (bK a)|exact dZ fr to (bK b)|exact M|exact O) ?_|refine aC ?_|refine aC9 ?_|fail
  all_goals simp_all [twV,oN]
 .have G:bL fr to a=_:=U;have H:bL fr to b=_:=V;rw[ca] at G;rw[cb] at H;simp only[Bj,Bc,AO] at G H;have M:=kV a fr to I.2 I.1;have O:=kV b fr to J.2 J.1;simp only[oN,G,H,Bj,Bc,Int.reduceEq] at M O;refine fn0 Cd.s_l09Two_k λX=>?_;simp -dsimp only[go_sem,cFd,da,db,fa,fb]
  repeat' first|simp -dsimp only[go_sem,cFd,da,db,fa,fb,G,H]|apply Br.mk<;>intro h<;>try simp -dsimp only[h]|refine aA.c (by first|exact dC a I.2 I.1|exact dC b J.2 J.1|exact dY a|exact dY b|exact dZ fr to (bK a)|exact dZ fr to (bK b)|exact M|exact O) ?_|refine aC ?_|refine aC9 ?_|fail
  all_goals simp_all [twV,oN]
 .have G:bL fr to a=_:=U;have H:bL fr to b=_:=V;rw[ca] at G;rw[cb] at H;simp only[Bj,Bc,AO] at G H;have M:=kV a fr to I.2 I.1;have O:=kV b fr to J.2 J.1;simp only[oN,G,H,Bj,Bc,Int.reduceEq] at M O;refine fn0 Cd.s_l09Two_k λX=>?_;simp -dsimp only[go_sem,cFd,da,db,fa,fb]
  repeat' first|simp -dsimp only[go_sem,cFd,da,db,fa,fb,G,H]|apply Br.mk<;>intro h<;>try simp -dsimp only[h]|refine aA.c (by first|exact dC a I.2 I.1|exact dC b J.2 J.1|exact dY a|exact dY b|exact dZ fr to (bK a)|exact dZ fr to (bK b)|exact M|exact O) ?_|refine aC ?_|refine aC9 ?_|fail
  all_goals simp_all [twV,oN]
 .have G:bL fr to a=_:=U;have H:bL fr to b=_:=V;rw[ca] at G;rw[cb] at H;simp only[Bj,Bc,AO] at G H;have M:=kV a fr to I.2 I.1;have O:=kV b fr to J.2 J.1;simp only[oN,G,H,Bj,Bc,Int.reduceEq] at M O;refine fn0 Cd.s_l09Two_k λX=>?_;simp -dsimp only[go_sem,cFd,da,db,fa,fb]
  repeat' first|simp -dsimp only[go_sem,cFd,da,db,fa,fb,G,H]|apply Br.mk<;>intro h<;>try simp -dsimp only[h]|refine aA.c (by first|exact dC a I.2 I.1|exact dC b J.2 J.1|exact dY a|exact dY b|exact dZ fr to (bK a)|exact dZ fr to (bK b)|exact M|exact O) ?_|refine aC ?_|refine aC9 ?_|fail
  all_goals simp_all [twV,oN]
theorem aCx (a b:List (List Int)) (fr to:Int) (H:bO a) (I:bO b):Fz F.oG [.sl 1 (E cC a),.sl 1 (E cC b),.agg (cFd fr to)] (.tup [mtV fr to a b,.v (.int .i64 (mtC fr to a b))]):=by
 by_cases G:kZ fr to [a,b]=0
 rotate_left
 .have e1:(kZ fr to [a,b] != 0)=true:=by simp[G]
  refine fn0 Cd.s_MatchDecks_k λX=>?_
  repeat' first|simp -dsimp only[go_sem,cFd,e1]|apply Br.mk<;>intro h<;>try simp -dsimp only[h]|refine aA.c (by first|exact aFn a b fr to H I) ?_|refine aC ?_|refine aC9 ?_|fail
  all_goals simp[mtV,mtC,G]
 obtain⟨⟨da,db⟩,⟨fa,fb⟩,J,M⟩:=aC1 G;have O:=eG da fa;have U:=eG db fb;have va:twV fr to a b a=.sl 1 (E cSt (bV fr to a)):=by simp[twV,G]
 have vb:twV fr to a b b=.sl 1 (E cSt (bV fr to b)):=by simp[twV,G]
 have V:=dN fr to a;have Y:=dN fr to b
 have Z:Fz F.sP [.sl 1 (E cC a),.sl 1 (E cC b),.agg (cFd fr to)] (.tup [.sl 1 (E cSt (bV fr to a)),.sl 1 (E cSt (bV fr to b)),.v (.int .i64 0)]):=by
  have h:=aFn a b fr to H I;rw[va,vb,G] at h;exact h
 cases hs:jC fr to a&&jC fr to b
 .refine fn0 Cd.s_MatchDecks_k λX=>?_
  repeat' first|simp -dsimp only[go_sem,cFd,V,Y]|apply Br.mk<;>intro h<;>try simp -dsimp only[h]|refine aA.c (by first|exact Z|exact cB a fr to O J H.1|exact cB b fr to U M I.1) ?_|refine aC ?_|refine aC9 ?_|fail
  all_goals first|(simp_all [mtV,mtC];done)|(refine aR ?_;simp_all [mtV,mtC];done)
 have h1:jC fr to a=true:=by simp only[Aw] at hs;exact hs.1
 have h2:jC fr to b=true:=by simp only[Aw] at hs;exact hs.2
 rw[h1] at V;rw[h2] at Y;refine fn0 Cd.s_MatchDecks_k λX=>?_;simp -dsimp only[go_sem,cFd,V,Y]
 repeat' first|simp -dsimp only[go_sem,cFd,V,Y,BV,Bool.or_false,Di,Bf,BA,Cj,Ce]|apply Br.mk<;>intro h<;>try simp -dsimp only[h]|refine aA.c (by first|exact Z|exact cB a fr to O J H.1|exact cB b fr to U M I.1|exact aGk a b fr to H I.1 O U J M|exact aGk b a fr to I H.1 U O M J) ?_|refine aC ?_|refine aC9 ?_|fail
 all_goals (have hz:mtC fr to a b=0:=by simp[mtC,G,hs]
            have hv:mtV fr to a b=.sl 1 (E cD (mtL fr to a b)):=by simp[mtV,hz]
            rw[hz,hv]
            first|exact⟨_,_,rfl,rfl⟩|(refine aR rfl)|trace_state)
end
section
variable [Vs.Envs]
attribute [local irreducible] Vs.Fn dJ bB dK dL l03 chB rk cd3 chI stp bD stb qU
theorem aIF (l:List Int) (G:l.length<=1048576):Vs.Fn Tryz.prog F.qO [] [.sl 1 (E cI l)] (.loc (.b 0) 0 l.length) [some (.arr 1 (E cI l) false)]:=by
 refine fn1 Cd.s_l00Own_k [.t 5 0] [.arr 1 (E cI l) false] λX=>?_;unfold Cd.qO
 repeat' first|simp -dsimp only[go_sem,aH,BF,BG,aU,bF,aT,Ar,Be,Aj,Ae]|apply Br.mk<;>intro h<;>try simp -dsimp only[h]|refine aC ?_|refine aC9 ?_|fail
 all_goals first|exact⟨_,_,rfl,rfl⟩
def wM (cf:Int->Int->Int) (i:Int) (o:List Int):Nat->Nat
 |0=>0
 |k+1=>if cf i (o.getD k 0)<0 then wM cf i o k else k+1
theorem aJY (F:Int->Int->Int) (i:Int) (o:List Int):wM F i o 0=0:=rfl
theorem aBY (F:Int->Int->Int) (i:Int) (o:List Int) (k:Nat):wM F i o (k+1)=if F i (o.getD k 0)<0 then wM F i o k else k+1:=rfl
theorem aFy (F:Int->Int->Int) (i:Int) (o:List Int):∀k,wM F i o k<=k
 |0=>Au _
 | k+1=>by
  rw[wM];split
  .exact Nat.le_succ_of_le (aFy F i o k)
  .exact Au _
def fI (cf:Int->Int->Int):Nat->List Int
 |0=>[]
 |n+1=>(fI cf n).take (wM cf n (fI cf n) (fI cf n).length)++[(n:Int)]++(fI cf n).drop (wM cf n (fI cf n) (fI cf n).length)
theorem vN (F:Int->Int->Int):∀n,(fI F n).Perm (iota n)
 |0=>List.Perm.refl _
 | n+1=>by
  rw[fI,aEA];generalize wM F n (fI F n) (fI F n).length=k
  have G:((fI F n).take k++[(n:Int)]++(fI F n).drop k).Perm ((fI F n).take k++(fI F n).drop k++[(n:Int)]):=by
   rw[Bz,Bz];exact List.Perm.append_left _ List.perm_append_comm
  rw[BN] at G;exact G.trans (CV _ (vN F n))
theorem aDm (F:Int->Int->Int) (n:Nat):(fI F n).length=n:=by rw[(vN F n).length_eq,oP]
end
section
variable [Vs.Envs]
attribute [local irreducible] Vs.Fn dJ bB dK dL l03 chB rk cd3 chI stp bD stb qU fI wM
theorem aLt {fr to:Int}{l:List (List Int)}{x:Int} (h:inO l.length x):(E cSt (bV fr to l)).getD x.toNat []=[.v (.string (txt (fH fr to (l.getD x.toNat []))))]:=by
 have F:x.toNat<l.length:=by have:=h.1;have:=h.2;omega
 rw[aW (by simpa[bV] using F)];simp[cSt,bV,List.getD,F]
attribute [local go_sem] aH Av Am Ak AR BQ Vs.Name.t.injEq BM Cg BF BG aU bF aT Ar Be Aj Ae in
theorem aJL (l:List (List Int)) (fr to:Int) (ho:∀c,c∈l->okF fr to c) (hall:bX fr to l=true) (hl:l.length<=40):Fz F.qM [.sl 1 (E cSt (bV fr to l))] (.sl 1 (E cI (fI (cfO fr to l) l.length))):=by
 have hkl:(E cSt (bV fr to l)).length=l.length:=by rw[aH];simp[bV]
 have hch:∀x,inO l.length x->cK (fH fr to (l.getD x.toNat []))=true:=λx hx=>Az.1 hall _ (oJ hx)
 have hcp:∀x y,inO l.length x->inO l.length y->Fz F.fP [.v (.string (txt (fH fr to (l.getD x.toNat [])))),.v (.string (txt (fH fr to (l.getD y.toNat []))))] (.v (.int .i64 (cfO fr to l x y))):=λx y hx hy =>
  xE _ _ (aBq (ho _ (oJ hx))) (by rw[rJ ho hx,rJ ho hy]) (hch x hx) (hch y hy)
 have hke:∀x,inO l.length x->(E cSt (bV fr to l)).getD x.toNat []=[.v (.string (txt (fH fr to (l.getD x.toNat []))))]:=λx hx=>aLt hx;generalize E cSt (bV fr to l)=K at *
 generalize cfO fr to l=cf at *
 refine fn0 Cd.s_l07Places_k λX=>?_
 repeat' first|simp -dsimp only[go_sem,hkl]|apply Br.mk<;>intro h<;>try simp -dsimp only[h]|refine aC ?_|refine aC9 ?_|fail
 refine aP.at dM (X:={zz:Nat×(Unit) // zz.1<=l.length∧True}) (λzz=>[(3,.loc (.t 3 0) 0 zz.1.1),(4,.v (.int .i64 zz.1.1))]) (λzz=>[(.t 3 0,.arr 1 (E cI (fI cf zz.1.1)) false)]) (λzz=>l.length-zz.1.1) ⟨(0,()),by omega,trivial⟩ ?_ ?_
 .simp[Vs.LeL,Vs.look,aB,aQ,aK,Vs.hset,aL,Vs.E,fI]
 .rintro⟨⟨i,_⟩,hi,hg⟩;dsimp only at hi hg;simp -dsimp only[go_sem,hkl];refine Br.mk (λhc=>?_) λhc=>?_
  .have hlt:i<l.length:=Dq;have hw:=aJ hlt (by omega);have hpl:=aDm cf i
   have hpi:∀k,k<i->inO l.length ((fI cf i).getD k 0):=λk hk=>by
    have h1:=aCT _ ((vN cf i).mem_iff.1 (fJ (by omega:k<(fI cf i).length)));exact⟨h1.1,by have:=h1.2;omega⟩
   have hii:inO l.length (i:Int):=⟨by omega,by omega⟩;have hki:=hke _ hii;rw[BR] at hki;have hps:fI cf (i+1)=(fI cf i).take (wM cf i (fI cf i) (fI cf i).length)++[(i:Int)]++(fI cf i).drop (wM cf i (fI cf i) (fI cf i).length):=by rw[fI]
   rw[hpl] at hps;have hdl:=aFy cf i (fI cf i) i;generalize fI cf i=o at *
   generalize hd:wM cf i o i=d at *
   simp -dsimp only[go_sem,hkl,hw];refine aP.at dM (X:={k:Nat // k<=i∧wM cf i o k=d}) (λk=>[(5,.v (.int .i64 (k.1:Nat)))]) (λk=>[]) (λk=>k.1) ⟨i,Au _,hd⟩ ?_ ?_
   .exact le0
   .rintro⟨k,hk,hkd⟩
    try dsimp only at hk hkd
    match k,hk,hkd with
    | 0,hk,hkd =>
     have e1:decide (((0:Nat):Int)>0)=false:=rfl;obtain rfl:d=0:=by rw[←hkd,aJY]
     simp -dsimp only[go_sem,e1];have htk:(E cI o).take (0)=E cI (o.take (0)):=by simp[E,CG]
     have hdk:((E cI o).drop (0)).take (i-(0))=E cI (o.drop (0)):=by rw[Ah (by rw[Cg,aH];omega)];simp[E,CJ]
     have hlt2:(o.take (0)).length=0:=by first|(simp;done)|(simp;omega)
     have hdl2:(o.drop (0)).length=i-(0):=by rw[Cg,hpl]
     have OW:=aIF (o.take (0)) (by omega);rw[hlt2] at OW;have hap:E cI (o.take (0))++[[.v (.int .i64 (i:Int))]]=E cI (o.take (0)++[(i:Int)]):=by rw[aV];rfl
     have hfin:E cI (o.take (0)++[(i:Int)])++E cI (o.drop (0))=E cI (fI cf (i+1)):=by simp only[hps,aV]
     have hz:((((0:Nat):Int))-0).toNat=0:=by omega
     have hz2:((i:Int)-((0:Nat):Int)).toNat=i-(0):=by omega
     have hz3:(((0:Nat):Int)).toNat=0:=by omega
     have hfb:∀b,some b∈[some (Blk.arr 1 (E cI (o.take (0))) false)]->aAx b:=by
      intro b hb;simp only[Av,Ab] at hb;subst hb;exact aIL (λx=>rfl)
     refine RgK.mk rfl ?_;simp -dsimp only[go_sem,htk,hdk,hap,hfin,hw,hpl,hkl,e1];refine⟨⟨⟨by omega,by omega,by omega⟩,?_⟩,λh=>absurd rfl h⟩;simp only[hz,BA];refine aA.lend OW rfl hfb rfl ?_;have hf0:[AV.v (.int .i64 (i:Int))]::E cI o=E cI (fI cf (i+1)):=by simp only[hps];rfl
     have hnil:E cI []=[]:=rfl;have hta:(E cI o).take i=E cI o:=Ah (by rw[aH];omega);clear htk hdk hap hfin;simp -dsimp only[go_sem,hz,hz2,hz3,Nat.sub_zero,BA,Af,Ag,Ao,Aq,Ad,Ac,Ai,AX,hf0,hnil,hta,hw,hpl,hkl,e1]
     repeat' (refine aC9 ?_)
     have hsum:1+i=i+1:=by omega
     first
      |exact⟨⟨(i+1,()),by first|omega|exact⟨by omega,trivial⟩,trivial⟩,by simp[Vs.LeL,Vs.look,aB,aQ,aK,Vs.hset,aL,hsum],by simp only;omega⟩

    | k+1,hk,hkd =>
     have e1:decide (((k+1:Nat):Int)>0)=true:=by first|(simp;done)|(simp;omega)
     have w1:IntKind.i64.wrap (((k+1:Nat):Int)-1)=(k:Int):=by rw[aI (by omega) (by omega)];omega
     have hj:=hpi k (by omega);have hj0:=hj.1;have hj1:=hj.2;have hkj:=hke _ hj;have hoj:(E cI o).getD k []=[.v (.int .i64 (o.getD k 0))]:=iP (by omega);have HC:=hcp _ _ hii hj;rw[BR] at HC;rw[aBY] at hkd;by_cases hneg:cf i (o.getD k 0)<0
     .have e2:decide (cf i (o.getD k 0)<0)=true:=A9 hneg;rw[AP hneg] at hkd;simp -dsimp only[go_sem,e1,e2]
      repeat' first|simp -dsimp only[go_sem,e1,e2,w1,hkj,hki,hoj,hkl,hpl]|apply Br.mk<;>intro h<;>try simp -dsimp only[h]|refine aA.c (by first|exact HC) ?_|refine aC ?_|refine aC9 ?_|fail
      all_goals first|(exact⟨⟨k,by omega,hkd⟩,by simp[Vs.LeL,Vs.look,aB,aQ,aK,Vs.hset,aL],by simp only;omega⟩)|omega
     .have e2:decide (cf i (o.getD k 0)<0)=false:=AQ hneg;rw[AC hneg] at hkd;obtain rfl:d=k+1:=hkd.symm;simp -dsimp only[go_sem,e1,e2];have htk:(E cI o).take (k+1)=E cI (o.take (k+1)):=by simp[E,CG]
      have hdk:((E cI o).drop (k+1)).take (i-(k+1))=E cI (o.drop (k+1)):=by rw[Ah (by rw[Cg,aH];omega)];simp[E,CJ]
      have hlt2:(o.take (k+1)).length=k+1:=by first|(simp;done)|(simp;omega)
      have hdl2:(o.drop (k+1)).length=i-(k+1):=by rw[Cg,hpl]
      have OW:=aIF (o.take (k+1)) (by omega);rw[hlt2] at OW;have hap:E cI (o.take (k+1))++[[.v (.int .i64 (i:Int))]]=E cI (o.take (k+1)++[(i:Int)]):=by rw[aV];rfl
      have hfin:E cI (o.take (k+1)++[(i:Int)])++E cI (o.drop (k+1))=E cI (fI cf (i+1)):=by simp only[hps,aV]
      have hz:((((k+1:Nat):Int))-0).toNat=k+1:=by omega
      have hz2:((i:Int)-((k+1:Nat):Int)).toNat=i-(k+1):=by omega
      have hz3:(((k+1:Nat):Int)).toNat=k+1:=by omega
      have hfb:∀b,some b∈[some (Blk.arr 1 (E cI (o.take (k+1))) false)]->aAx b:=by
       intro b hb;simp only[Av,Ab] at hb;subst hb;exact aIL (λx=>rfl)
      refine RgK.mk rfl ?_;simp -dsimp only[go_sem,htk,hdk,hap,hfin,hw,hpl,hkl,e1,e2,w1,hj0,hj1,hkj,hki,hoj];refine⟨⟨by omega,by omega⟩,⟨by omega,by omega⟩,aA.flat HC rfl ?_⟩;simp -dsimp only[go_sem,htk,hdk,hap,hfin,hw,hpl,hkl,e1,e2,w1,hj0,hj1,hkj,hki,hoj];refine⟨⟨⟨by omega,by omega,by omega⟩,?_⟩,λh=>absurd rfl h⟩;simp only[hz,htk];refine aA.lend OW rfl hfb rfl ?_;simp -dsimp only[go_sem,hz,hz2,hz3,Nat.sub_zero,BA,Af,Ag,Ao,Aq,Ad,Ac,Ai,AX,htk,hdk,hap,hfin,hlt2,hdl2,hw,hpl,hkl]
      repeat' (refine aC9 ?_)
      have hsum:k+1+1+(i-(k+1))=i+1:=by omega
      first
       |exact⟨⟨(i+1,()),by first|omega|exact⟨by omega,trivial⟩,trivial⟩,by simp[Vs.LeL,Vs.look,aB,aQ,aK,Vs.hset,aL,hsum],by simp only;omega⟩

  .have hge:i=l.length:=by
    have:¬i<l.length:=Dq;omega
   subst hge;simp -dsimp only[go_sem,hkl];have hpl:=aDm cf l.length;have htk:(E cI (fI cf l.length)).take l.length=E cI (fI cf l.length):=Ah (by rw[aH];omega)
   first|exact⟨⟨_,_,rfl,rfl⟩,λh=>h rfl⟩|(rw[htk];exact⟨⟨_,_,rfl,rfl⟩,λh=>h rfl⟩)|(simp[htk];done)
end
section
variable [Vs.Envs]
attribute [local irreducible] Vs.Fn dJ bB dK dL l03 chB rk cd3 chI stp bD
theorem aIN (F:Int->Int->Int) (i:Int) (o:List Int):∀K k,wM F i o K<=k->k<K->F i (o.getD k 0)<0
 |0,k,_,h=>by omega
 | K+1,k,h1,h2=>by
  rw[aBY] at h1;split at h1
  .rename_i H;by_cases G:k=K
   .subst G;exact H
   .exact aIN F i o K k h1 (by omega)
  .omega
theorem aIM (F:Int->Int->Int) (i:Int) (o:List Int):∀K,0<wM F i o K->¬F i (o.getD (wM F i o K-1) 0)<0
 |0,h=>by simp[wM] at h
 | K+1,h=>by
  rw[aBY] at h⊢;split
  .rename_i G;rw[AP G] at h;exact aIM F i o K h
  .rename_i G;exact G
theorem aF3 {fr to:Int}{l:List (List Int)} (ho:∀c,c∈l->okF fr to c):∀n,n<=l.length->(fI (cfO fr to l) n).Pairwise (yN fr to l)
 |0,_=>List.Pairwise.nil
 | n+1,h=>by
  have ih:=aF3 ho n (by omega);have hin:∀x,x∈fI (cfO fr to l) n->inO n x:=λx I=>aCT x ((vN _ n).mem_iff.1 I);have hf:=aDm (cfO fr to l) n;rw[fI];have Y:=aIN (cfO fr to l) n (fI (cfO fr to l) n) (fI (cfO fr to l) n).length;have hc:=aIM (cfO fr to l) n (fI (cfO fr to l) n) (fI (cfO fr to l) n).length;have hk:=aFy (cfO fr to l) n (fI (cfO fr to l) n) (fI (cfO fr to l) n).length;generalize wM (cfO fr to l) n (fI (cfO fr to l) n) (fI (cfO fr to l) n).length=d at *
  generalize fI (cfO fr to l) n=o at *
  have hn:inO l.length (n:Int):=⟨by omega,by omega⟩;have H:∀x,inO n x->inO l.length x:=λx I=>⟨I.1,by have:=I.2;omega⟩
  have V:∀y,y∈o.drop d->yN fr to l n y:=by
   intro y hy;obtain⟨j,hj,rfl⟩:=BZ.1 hy;rw[Cg] at hj;rw[List.getElem_drop];have hm:o[d+j]∈o:=Aa _;have M:=Y (d+j) (by omega) (by omega);have e:o.getD (d+j) 0=o[d+j]:=by simp[List.getD,(by omega:d+j<o.length)]
   rw[e] at M;exact⟨⟨hn,H _ (hin _ hm)⟩,.inl M⟩
  have hd:∀x,x∈o.take d->yN fr to l x n:=by
   intro x I;obtain⟨j,hj,rfl⟩:=List.mem_take_iff_getElem.1 I;have hg:j<d:=by omega
   have J:d-1<o.length:=by omega
   have M:=hc (by omega);have e:o.getD (d-1) 0=o[d-1]:=by simp[List.getD,J]
   rw[e] at M;have hm:o[d-1]∈o:=Aa _;have G:=hin _ hm;have U:=aC2 ho hn (H _ G)
   have F:yN fr to l o[d-1] n:=by
    refine⟨⟨H _ G,hn⟩,?_⟩;by_cases h0:cfO fr to l o[d-1] n=0
    .exact .inr ⟨h0,G.2⟩
    .exact .inl (by omega)
   by_cases Z:j=d-1
   .subst Z;exact F
   .exact nD ho _ _ _ (Dg.1 ih j (d-1) (by omega) J (by omega)) F
  have he:(o.take d++o.drop d).Pairwise (yN fr to l):=by rw[BN];exact ih
  obtain⟨p1,p2,p3⟩:=Bo.1 he;rw[Bz,Bo];refine⟨p1,?_,?_⟩
  .rw[List.singleton_append,Cx];exact⟨V,p2⟩
  .intro a U b O;rw[List.singleton_append,Am] at O;rcases O with rfl|O
   .exact hd a U
   .exact p3 a U b O
theorem aMO {fr to:Int}{l:List (List Int)} (F:∀c,c∈l->okF fr to c) (H:l.length<=40):fI (cfO fr to l) l.length=qU fr to l:=by
 obtain⟨G,h2⟩:=aA9 F H;exact aE4 (nD F) (aBL F) ((vN _ _).trans G.symm) (aF3 F _ (Au _)) h2
end
section
variable [Vs.Envs]
attribute [local irreducible] Vs.Fn dJ bB dK dL l03 chB rk cd3 chI stp bD stb qU fI wM
attribute [local go_sem] aH Af Ag Ao Aq Ae Aj Ad Al Ac Ai Ap
theorem aKv (l:List (List Int)) (fr to:Int) (O:∀x,x∈l->x.length<=1048576) (M:l.length<=1048576):Fz F.tT [.sl 1 (E cC l),.agg (cFd fr to)] (.v (.int .i64 (bL fr to l))):=by
 have H:=lY l O M;have I:=jG l;have G:=xH fr to (bK l);cases hd:bC l
 .rw[hd] at H;rw[show bL fr to l=1 by simp[bL,hd]];refine fn0 Cd.i_sortCode_k λX=>?_
  repeat' first|simp -dsimp only[go_sem,cC,cFd]|apply Br.mk<;>intro h<;>try simp -dsimp only[h]|refine aA.c (by first|exact H|exact I|exact G) ?_|refine aC ?_|refine aC9 ?_|fail
  all_goals first|exact⟨_,_,rfl,rfl⟩|simp
 rw[hd] at H;cases hf:dW fr to (bK l)
 .rw[hf] at G;rw[show bL fr to l=2 by simp[bL,hd,hf]];refine fn0 Cd.i_sortCode_k λX=>?_
  repeat' first|simp -dsimp only[go_sem,cC,cFd]|apply Br.mk<;>intro h<;>try simp -dsimp only[h]|refine aA.c (by first|exact H|exact I|exact G) ?_|refine aC ?_|refine aC9 ?_|fail
  all_goals first|exact⟨_,_,rfl,rfl⟩|simp
 rw[hf] at G;have J:=sI l fr to (eG hd hf) M;cases ha:bX fr to l
 .rw[ha] at J;rw[show bL fr to l=8 by simp[bL,hd,hf,ha]];refine fn0 Cd.i_sortCode_k λX=>?_
  repeat' first|simp -dsimp only[go_sem,cC,cFd]|apply Br.mk<;>intro h<;>try simp -dsimp only[h]|refine aA.c (by first|exact H|exact I|exact G|exact J) ?_|refine aC ?_|refine aC9 ?_|fail
  all_goals first|exact⟨_,_,rfl,rfl⟩|simp
 rw[ha] at J;rw[show bL fr to l=0 by simp[bL,hd,hf,ha]];refine fn0 Cd.i_sortCode_k λX=>?_
 repeat' first|simp -dsimp only[go_sem,cC,cFd]|apply Br.mk<;>intro h<;>try simp -dsimp only[h]|refine aA.c (by first|exact H|exact I|exact G|exact J) ?_|refine aC ?_|refine aC9 ?_|fail
 all_goals first|exact⟨_,_,rfl,rfl⟩|simp
def u6 (fr to:Int) (l:List (List Int)):AV:=if bL fr to l=0 then .sl 1 (E cC (jH fr to l)) else .v (.slice none 0 0)
theorem aCS {fr to:Int}{l:List (List Int)} (h:bL fr to l=0):bC l=true∧dW fr to (bK l)=true∧bX fr to l=true:=by
 unfold bL at h;cases hd:bC l<;>cases hf:dW fr to (bK l)<;>cases ha:bX fr to l<;>simp[hd,hf,ha] at h⊢
theorem jL {l:List (List Int)} (h:bC l=true):l.length<=40:=by
 simp only[bC,Aw,Bb] at h;exact h.2
theorem aEd (l:List (List Int)) (fr to:Int) (V:∀x,x∈l->x.length<=1048576) (U:l.length<=1048576):Fz F.uB [.sl 1 (E cC l),.agg (cFd fr to)] (.tup [u6 fr to l,.v (.int .i64 (bL fr to l))]):=by
 have H:=aKv l fr to V U;by_cases G:bL fr to l=0
 .obtain⟨I,O,Y⟩:=aCS G;have J:=aAT l fr to (eG I O) (jL I);rw[show u6 fr to l=.sl 1 (E cC (jH fr to l)) by simp[u6,G],G];rw[G] at H;refine fn0 Cd.i_SortedBy_k λX=>?_
  repeat' first|simp -dsimp only[go_sem,cC,cFd]|apply Br.mk<;>intro h<;>try simp -dsimp only[h]|refine aA.c (by first|exact H|exact J) ?_|refine aC ?_|refine aC9 ?_|fail
  all_goals first|exact⟨_,_,rfl,rfl⟩|simp
 .have M:(bL fr to l != 0)=true:=by simp[G]
  rw[show u6 fr to l=.v (.slice none 0 0) by simp[u6,G]];generalize bL fr to l=c at *
  refine fn0 Cd.i_SortedBy_k λX=>?_
  repeat' first|simp -dsimp only[go_sem,cC,cFd,M]|apply Br.mk<;>intro h<;>try simp -dsimp only[h]|refine aA.c (by first|exact H) ?_|refine aC ?_|refine aC9 ?_|fail
  all_goals first|exact⟨_,_,rfl,rfl⟩|simp
theorem aD8 (l:List (List Int)) (fr to:Int) (hs:∀x,x∈l->x.length<=1048576) (hl:l.length<=1048576):Fz F.sW [.sl 1 (E cC l),.agg (cFd fr to)] (.tup [u6 fr to l,.v (.int .i64 (bL fr to l))]):=by
 have KS:=kV l fr to hs hl;by_cases h0:bL fr to l=0
 .obtain⟨hd,hf,ha⟩:=aCS h0;have ho:=eG hd hf;have h40:=jL hd;have PL:=aJL l fr to ho ha h40;rw[aMO ho h40] at PL;rw[show u6 fr to l=.sl 1 (E cC (jH fr to l)) by simp[u6,h0],h0];rw[show oN fr to l=.sl 1 (E cSt (bV fr to l)) by simp[oN,h0],h0] at KS;have hol:=yO fr to l;have hoi:=aFh ho h40;rw[show jH fr to l=(qU fr to l).map (λi=>l.getD i.toNat []) from rfl];generalize qU fr to l=o at *
  refine fn0 Cd.s_SortedBy_k λX=>?_
  repeat' first|simp -dsimp only[go_sem,cC,cFd]|apply Br.mk<;>intro h<;>try simp -dsimp only[h]|refine aA.c (by first|exact KS|exact PL) ?_|refine aC ?_|refine aC9 ?_|fail
  refine aP.at dM (X:={zz:Nat×(Unit) // zz.1<=o.length∧True}) (λzz=>[(9,.loc (.t 9 0) 0 zz.1.1),(10,.v (.int .i64 zz.1.1))]) (λzz=>[(.t 9 0,.arr 1 (E cC ((o.take zz.1.1).map λi=>l.getD i.toNat [])) false)]) (λzz=>o.length-zz.1.1) ⟨(0,()),by omega,trivial⟩ ?_ ?_
  .simp[Vs.LeL,Vs.look,aB,aQ,aK,Vs.hset,aL,Vs.E]
  .rintro⟨⟨i,_⟩,hi,hg⟩;dsimp only at hi hg;simp -dsimp only[go_sem,cC,cFd];refine Br.mk (λhc=>?_) λhc=>?_
   .have hlt:i<o.length:=Dq;have hw:=aJ hlt (by omega);have hx:=hoi _ (Aa hlt);have gx:=aB4 hx;have hm:=oJ hx;have hc20:(l.getD o[i].toNat []).length<=20:=(ho _ hm).2.2.2;have NC:=yT (l.getD o[i].toNat []) (by omega);have x0:=hx.1;have x1:=hx.2
    have hap:E cC ((o.take i).map λi=>l.getD i.toNat [])++[[.sl 1 (E cI (l.getD o[i].toNat []))]]=E cC ((o.take (i+1)).map λi=>l.getD i.toNat []):=by
     rw[bM hlt,Bu,aV];rfl
    have hal:(E cC ((o.take i).map λi=>l.getD i.toNat [])).length=i:=by rw[aH];simp;omega
    repeat' first|simp -dsimp only[go_sem,dI hlt,hw,hap,hal,gx,cC,cFd]|apply Br.mk<;>intro h<;>try simp -dsimp only[h]|refine aA.c (by first|exact NC) ?_|refine aC ?_|refine aC9 ?_|fail
    all_goals first|omega|(exact nx (i+1,()) trivial (h2:=by simp[Vs.LeL,Vs.look,aB,aQ,aK,Vs.hset,aL,hap]))
   .have hge:i=o.length:=by
     have:¬i<o.length:=Dq;omega
    subst hge;simp -dsimp only[go_sem,cC,cFd]
    have htk:(E cC ((o.take o.length).map λi=>l.getD i.toNat [])).take o.length=E cC (o.map λi=>l.getD i.toNat []):=by
     rw[Ah (Au o.length)];exact Ah (by rw[aH];simp)
    first|exact⟨⟨_,_,rfl,rfl⟩,λh=>h rfl⟩|(rw[htk];exact⟨⟨_,_,rfl,rfl⟩,λh=>h rfl⟩)|(simp[htk];done)
 .have e0:(bL fr to l != 0)=true:=by simp[h0]
  rw[show u6 fr to l=.v (.slice none 0 0) by simp[u6,h0]];rw[show oN fr to l=.v (.slice none 0 0) by simp[oN,h0]] at KS;generalize bL fr to l=c at *
  refine fn0 Cd.s_SortedBy_k λX=>?_
  repeat' first|simp -dsimp only[go_sem,cC,cFd,e0]|apply Br.mk<;>intro h<;>try simp -dsimp only[h]|refine aA.c (by first|exact KS) ?_|refine aC ?_|refine aC9 ?_|fail
  all_goals first|exact⟨_,_,rfl,rfl⟩|simp
end
end Go.Proofs.YtklmdppgonhflaaGreatDoor
