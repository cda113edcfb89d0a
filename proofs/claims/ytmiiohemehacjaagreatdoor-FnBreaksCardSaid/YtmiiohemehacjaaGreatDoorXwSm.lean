/- SortedBy: the program and the reference. -/
import Derived.Test.YtmiiohemehacjaaGreatDoorXwSh
import Derived.Test.YtmiiohemehacjaaGreatDoorVtR
import Derived.Test.YtmiiohemehacjaaGreatDoorXwQb
set_option linter.all false
set_option maxHeartbeats 8000000
namespace Go.Proofs.YtmiiohemehacjaaGreatDoor
open Go.Vs
section
variable [Vs.Envs]
attribute [local irreducible] Vs.Fn chOK areCh chTo chAt l03 chB rk cd3 chI stp stpTo flt sP zR aAv mat jY iL stF
attribute [local go_sem] Ai Ah Al Aq Ad Af Ac Ae Aa Ab Ao
theorem aHY:∀{a b:List Int},a.length=b.length->cZ a=true->cZ b=true->(jC a b=0↔a=b)
 | [],[],_,_,_=>by simp[jC]
 | [],y::b,h,_,_=>by simp at h
 |x::a,[],h,_,_=>by simp at h
 | x::a,y::b,h,ha,hb=>by
  simp only[cZ,BO,Au,Bb] at ha hb;have G:=aHY (a:=a) (b:=b) (by simpa using h) (by simpa[cZ] using ha.2) (by simpa[cZ] using hb.2);rw[jC];by_cases u:rk x<rk y
  .rw[AY u];refine⟨λh=>by simp at h,λh=>?_⟩;simp only[List.cons.injEq] at h;rw[h.1] at u;omega
  .rw[AJ u];by_cases h2:rk x>rk y
   .rw[AY h2];refine⟨λh=>by simp at h,λh=>?_⟩;simp only[List.cons.injEq] at h;rw[h.1] at h2;omega
   .rw[AJ h2,G];have F:x=y:=aJz ha.1 (by omega);simp[F]
theorem aK4 {a b:List Int} (L:a.length=b.length) (G:cZ a=true) (H:cZ b=true) (h:(txt a).data.toList=(txt b).data.toList):a=b:=by
 apply List.ext_getElem L;intro i F h2;have u:=aEy G F;have I:=aEy H h2;rw[h,I] at u;have O:=aCM a[i];have U:=aCM b[i];have J:=vF G F;have M:=vF H h2;have:=aHZ (rk b[i]).toNat (by omega) (rk a[i]).toNat (by omega) u;exact aJz J (by omega)
theorem aEx {a b:List Int} (G:a.length=b.length) (u:cZ a=true) (F:cZ b=true):((txt a).toList==(txt b).toList)=(jC a b==0):=by
 rw[ByteArray.toList_eq,ByteArray.toList_eq];have h:=aHY G u F;by_cases e:a=b
 .subst e;have:jC a a=0:=h.2 rfl;simp[this]
 .have J:¬jC a b=0:=λh'=>e (h.1 h');have h2:¬(txt a).data.toList=(txt b).data.toList:=λh'=>e (aK4 G u F h');have H:((txt a).data.toList==(txt b).data.toList)=false:=Ap.2 h2;have I:(jC a b==0)=false:=Ap.2 J;rw[H,I]
theorem aM1 (l:List Int) (u:l.length<=1048576):Fz F.pI [.sl 1 (E cI l)] (.sl 1 (E cI l)):=by
 refine fn0 Cd.s_l00Own_k λX=>?_;simp -dsimp only[go_sem]
 first
  |exact⟨by omega,rfl,⟨rfl,by omega,by omega⟩,_,_,rfl,rfl⟩
  |exact⟨by omega,rfl,⟨by omega,by omega⟩,_,_,rfl,rfl⟩
  |exact⟨⟨by omega,by omega⟩,⟨by omega,by omega⟩,_,_,rfl,rfl⟩
theorem xS (c:List Int) (u:c.length<=1048576):Fz F.jE [.ro (cC c)] (.agg (cC c)):=by
 refine fn0 Cd.s_l02Own_k λX=>?_
 repeat' first|simp -dsimp only[go_sem,cC,cFd]|apply Br.mk<;>intro h<;>try simp -dsimp only[h]|refine aA.c (by first|exact aM1 c u) ?_|refine aC ?_|fail
 all_goals(exact⟨_,_,rfl,rfl⟩)
theorem uY (fr to:Int) (l:List (List Int)):(bT fr to l).length=l.length:=by simp[bT]
attribute [local go_sem] aH cFd in
theorem aJ4 (o:List (List Int)) (x:List Int) (fr to:Int) (ho:∀c,c∈o->okF fr to c) (hh:bW fr to o=true) (hx:okF fr to x) (hxh:cZ (fH fr to x)=true) (hl:o.length<=1048576) :
  Fz F.xE [.sl 1 (E cSt (bT fr to o)),.v (.string (txt (fH fr to x)))] (.v (.bool (uA fr to o x))):=by
 have hkl:=uY fr to o;refine fn0 Cd.s_l09Has_k λX=>?_;simp -dsimp only[go_sem,hkl];refine aO.at dM (X:={zz:Nat×(Unit) // zz.1<=o.length∧(o.take zz.1).all (λc=>!(cmF fr to c x==0))=true}) (λzz=>[(5,.v (.int .i64 zz.1.1))]) (λzz=>[]) (λzz=>o.length-zz.1.1) ⟨(0,()),by omega,by simp⟩ ?_ ?_
 .exact le0
 .rintro⟨⟨i,_⟩,hi,hg⟩;dsimp only at hi hg;simp -dsimp only[go_sem,hkl];refine Br.mk (λhc=>?_) λhc=>?_
  .have hlt:i<o.length:=Dq;have hw:=aI hlt hl;have hk:=ho _ (Am hlt);have hc:=(Aw.1 hh) _ (Am hlt);have hm:(E cSt (bT fr to o)).getD i []=[.v (.string (txt (fH fr to o[i])))]:=by rw[aR (by omega)];simp[bT,cSt]
   have he:=aEx ((lK hk).trans (lK hx).symm) hc hxh;cases hz:jC (fH fr to o[i]) (fH fr to x)==0
   .have hp:(cmF fr to o[i] x==0)=false:=hz
    repeat' first|simp -dsimp only[go_sem,hw,hm,he,hz,hkl]|apply Br.mk<;>intro h<;>try simp -dsimp only[h]|refine aC ?_|fail
    all_goals first|omega|(exact nx (i+1,()) (bH (p:=λc=>!(cmF fr to c x==0)) hlt hg (by simp[hp])))
   .have hp:(cmF fr to o[i] x==0)=true:=hz;have hany:uA fr to o x=true:=List.any_eq_true.2 ⟨o[i],Am hlt,hp⟩
    repeat' first|simp -dsimp only[go_sem,hw,hm,he,hz,hkl]|apply Br.mk<;>intro h<;>try simp -dsimp only[h]|refine aC ?_|fail
    all_goals first|omega|(refine aU ?_;simp[hany];done)|(simp[hany];done)
  .have hge:i=o.length:=by
    have:¬i<o.length:=Dq;omega
   subst hge;simp -dsimp only[go_sem,hkl]
   have hany:uA fr to o x=false:=by
    unfold uA;rw[List.any_eq_false];intro c hc;rw[Ce] at hg;have:=(Aw.1 hg) c hc;simpa using this
   simp[hany]
theorem aC8 {fr to:Int}{l o:List (List Int)}{e:Bool}{i:Nat} (h:i<l.length):mat fr to (l.take (i+1)) o e=mat fr to (l.take i) o e++(if uA fr to o l[i]==e then[l[i]] else[]):=by
 unfold mat;rw[yB h];cases uA fr to o l[i]==e<;>simp
theorem tC (fr to:Int) (l o:List (List Int)) (e:Bool):(mat fr to l o e).length<=l.length:=by unfold mat;exact zT ..
theorem aJW (fr to:Int) (o:List (List Int)) (e:Bool):mat fr to [] o e=[]:=by unfold mat flt;rfl
theorem aHG {fr to:Int}{l o:List (List Int)}{e:Bool}{i:Nat} (h:i<l.length) (hh:uA fr to o l[i]=e):E cC (mat fr to (l.take i) o e)++[[.sl 1 (E cI l[i])]]=E cC (mat fr to (l.take (i+1)) o e):=by
 rw[aC8 h,hh,aS];simp[E,cC]
theorem aFy {fr to:Int}{l o:List (List Int)}{e:Bool}{i:Nat} (h:i<l.length) (hh:uA fr to o l[i]=e):(mat fr to (l.take (i+1)) o e).length=(mat fr to (l.take i) o e).length+1:=by
 rw[aC8 h,hh];simp
theorem aFx {fr to:Int}{l o:List (List Int)}{e:Bool}{i:Nat} (h:i<l.length) (hh:uA fr to o l[i] = !e):mat fr to (l.take (i+1)) o e=mat fr to (l.take i) o e:=by
 rw[aC8 h,hh];cases e<;>simp
attribute [local go_sem] aH cFd in
theorem aFH (l o:List (List Int)) (fr to:Int) (hl:bE l) (hol:o.length<=1048576) (oa:∀c,c∈l->okF fr to c) (ob:∀c,c∈o->okF fr to c) (ca:bW fr to l=true) (cb:bW fr to o=true) :
  Fz F.oM [.sl 1 (E cC l),.sl 1 (E cSt (bT fr to l)),.sl 1 (E cSt (bT fr to o))] (.tup [.sl 1 (E cC (mat fr to l o true)),.sl 1 (E cC (mat fr to l o false))]):=by
 have hkl:=uY fr to l;have hkm:=uY fr to o;refine fn0 Cd.s_l09Match_k λX=>?_;simp -dsimp only[go_sem,hkl,hkm];refine⟨⟨by omega,by omega⟩,⟨by omega,by omega⟩,?_⟩;refine aO.at dM (X:={zz:Nat×(Unit) // zz.1<=l.length∧True}) (λzz=>[(8,.loc (.t 8 0) 0 (mat fr to (l.take zz.1.1) o true).length),(9,.loc (.t 9 0) 0 (mat fr to (l.take zz.1.1) o false).length),(10,.v (.int .i64 zz.1.1))]) (λzz=>[(.t 8 0,.arr 1 (E cC (mat fr to (l.take zz.1.1) o true)) false),(.t 9 0,.arr 1 (E cC (mat fr to (l.take zz.1.1) o false)) false)]) (λzz=>l.length-zz.1.1) ⟨(0,()),by omega,trivial⟩ ?_ ?_
 .simp[Vs.LeL,Vs.look,aB,aP,aJ,Vs.hset,aK,aJW,Vs.E]
 .rintro⟨⟨i,_⟩,hi,hg⟩;dsimp only at hi hg;simp -dsimp only[go_sem,hkl];refine Br.mk (λhc=>?_) λhc=>?_
  .have hlt:i<l.length:=Dq;have hw:=aI hlt hl.1;have hk:=oa _ (Am hlt);have hc:=(Aw.1 ca) _ (Am hlt);have hs:=hl.2 _ (Am hlt);have hm:(E cSt (bT fr to l)).getD i []=[.v (.string (txt (fH fr to l[i])))]:=by rw[aR (by omega)];simp[bT,cSt]
   have hm2:(E cC l).getD i []=[.sl 1 (E cI l[i])]:=aR hlt;have hb1:=tC fr to (l.take i) o true;have hb2:=tC fr to (l.take i) o false;have ht:(l.take i).length=i:=by simp;omega
   have hl1:=hl.1;cases hz:uA fr to o l[i]
   .have g1:=aHG (e:=false) hlt hz;have g2:=aFy (e:=false) hlt hz;have g3:=aFx (e:=true) hlt hz
    repeat' first|simp -dsimp only[go_sem,hw,hm,hm2,hz,g1,hkl,cC]|apply Br.mk<;>intro h<;>try simp -dsimp only[h]|refine aA.c (by first|exact aJ4 o l[i] fr to ob cb hk hc hol|exact xS l[i] hs) ?_|refine aC ?_|fail
    all_goals first|omega|(exact nx (i+1,()) trivial (h2:=by simp[Vs.LeL,Vs.look,aB,aP,aJ,Vs.hset,aK,g2,g3]))
   .have g1:=aHG (e:=true) hlt hz;have g2:=aFy (e:=true) hlt hz;have g3:=aFx (e:=false) hlt hz
    repeat' first|simp -dsimp only[go_sem,hw,hm,hm2,hz,g1,hkl,cC]|apply Br.mk<;>intro h<;>try simp -dsimp only[h]|refine aA.c (by first|exact aJ4 o l[i] fr to ob cb hk hc hol|exact xS l[i] hs) ?_|refine aC ?_|fail
    all_goals first|omega|(exact nx (i+1,()) trivial (h2:=by simp[Vs.LeL,Vs.look,aB,aP,aJ,Vs.hset,aK,g2,g3]))
  .have hge:i=l.length:=by
    have:¬i<l.length:=Dq;omega
   subst hge;simp -dsimp only[go_sem,hkl];rw[Ce];have k1:(E cC (mat fr to l o true)).take (mat fr to l o true).length=E cC (mat fr to l o true):=aBN _;have k2:(E cC (mat fr to l o false)).take (mat fr to l o false).length=E cC (mat fr to l o false):=aBN _;exact⟨⟨_,_,rfl,rfl⟩,λh=>h rfl⟩
def twV (fr to:Int) (a b d:List (List Int)):AV:=if jY fr to [a,b]=0 then .sl 1 (E cSt (bT fr to d)) else .v (.slice none 0 0)
theorem aGZ (fr to:Int) (a b:List (List Int)):jY fr to [a,b]=if bB a&&bB b then(if eF fr to (bL a)&&eF fr to (bL b) then(if bW fr to a&&bW fr to b then 0 else 8) else 2) else 1:=by
 unfold jY;simp only[BO,Dw,Bool.and_true]
theorem aEP (a b:List (List Int)) (fr to:Int) (H:bE a) (I:bE b):Fz F.rF [.sl 1 (E cC a),.sl 1 (E cC b),.agg (cFd fr to)] (.tup [twV fr to a b a,twV fr to a b b,.v (.int .i64 (jY fr to [a,b]))]):=by
 have U:=aGZ fr to a b;cases da:bB a
 .refine fn0 Cd.s_l09Two_k λX=>?_
  repeat' first|simp -dsimp only[go_sem,cFd,da]|apply Br.mk<;>intro h<;>try simp -dsimp only[h]|refine aA.c (by first|exact bJ a H.2 H.1|exact bJ b I.2 I.1) ?_|refine aC ?_|fail
  all_goals simp_all [twV]
 cases db:bB b
 .refine fn0 Cd.s_l09Two_k λX=>?_
  repeat' first|simp -dsimp only[go_sem,cFd,da,db]|apply Br.mk<;>intro h<;>try simp -dsimp only[h]|refine aA.c (by first|exact bJ a H.2 H.1|exact bJ b I.2 I.1) ?_|refine aC ?_|fail
  all_goals simp_all [twV]
 cases fa:eF fr to (bL a)
 .refine fn0 Cd.s_l09Two_k λX=>?_
  repeat' first|simp -dsimp only[go_sem,cFd,da,db,fa]|apply Br.mk<;>intro h<;>try simp -dsimp only[h]|refine aA.c (by first|exact bJ a H.2 H.1|exact bJ b I.2 I.1|exact dG a|exact dG b|exact dX fr to (bL a)|exact dX fr to (bL b)) ?_|refine aC ?_|fail
  all_goals simp_all [twV]
 cases fb:eF fr to (bL b)
 .refine fn0 Cd.s_l09Two_k λX=>?_
  repeat' first|simp -dsimp only[go_sem,cFd,da,db,fa,fb]|apply Br.mk<;>intro h<;>try simp -dsimp only[h]|refine aA.c (by first|exact bJ a H.2 H.1|exact bJ b I.2 I.1|exact dG a|exact dG b|exact dX fr to (bL a)|exact dX fr to (bL b)) ?_|refine aC ?_|fail
  all_goals simp_all [twV]
 have M:bD fr to a=if bW fr to a then 0 else 8:=by unfold bD;rw[da,fa];rfl
 have O:bD fr to b=if bW fr to b then 0 else 8:=by unfold bD;rw[db,fb];rfl
 cases ca:bW fr to a<;>cases cb:bW fr to b
 .have u:bD fr to a=_:=M;have G:bD fr to b=_:=O;rw[ca] at u;rw[cb] at G;simp only[Bt,Bg,A8] at u G;have J:=j4 a fr to H.2 H.1;have L:=j4 b fr to I.2 I.1;simp only[nP,u,G,Bt,Bg,Int.reduceEq] at J L;refine fn0 Cd.s_l09Two_k λX=>?_;simp -dsimp only[go_sem,cFd,da,db,fa,fb]
  repeat' first|simp -dsimp only[go_sem,cFd,da,db,fa,fb,u,G]|apply Br.mk<;>intro h<;>try simp -dsimp only[h]|refine aA.c (by first|exact bJ a H.2 H.1|exact bJ b I.2 I.1|exact dG a|exact dG b|exact dX fr to (bL a)|exact dX fr to (bL b)|exact J|exact L) ?_|refine aC ?_|fail
  all_goals simp_all [twV,nP]
 .have u:bD fr to a=_:=M;have G:bD fr to b=_:=O;rw[ca] at u;rw[cb] at G;simp only[Bt,Bg,A8] at u G;have J:=j4 a fr to H.2 H.1;have L:=j4 b fr to I.2 I.1;simp only[nP,u,G,Bt,Bg,Int.reduceEq] at J L;refine fn0 Cd.s_l09Two_k λX=>?_;simp -dsimp only[go_sem,cFd,da,db,fa,fb]
  repeat' first|simp -dsimp only[go_sem,cFd,da,db,fa,fb,u,G]|apply Br.mk<;>intro h<;>try simp -dsimp only[h]|refine aA.c (by first|exact bJ a H.2 H.1|exact bJ b I.2 I.1|exact dG a|exact dG b|exact dX fr to (bL a)|exact dX fr to (bL b)|exact J|exact L) ?_|refine aC ?_|fail
  all_goals simp_all [twV,nP]
 .have u:bD fr to a=_:=M;have G:bD fr to b=_:=O;rw[ca] at u;rw[cb] at G;simp only[Bt,Bg,A8] at u G;have J:=j4 a fr to H.2 H.1;have L:=j4 b fr to I.2 I.1;simp only[nP,u,G,Bt,Bg,Int.reduceEq] at J L;refine fn0 Cd.s_l09Two_k λX=>?_;simp -dsimp only[go_sem,cFd,da,db,fa,fb]
  repeat' first|simp -dsimp only[go_sem,cFd,da,db,fa,fb,u,G]|apply Br.mk<;>intro h<;>try simp -dsimp only[h]|refine aA.c (by first|exact bJ a H.2 H.1|exact bJ b I.2 I.1|exact dG a|exact dG b|exact dX fr to (bL a)|exact dX fr to (bL b)|exact J|exact L) ?_|refine aC ?_|fail
  all_goals simp_all [twV,nP]
 .have u:bD fr to a=_:=M;have G:bD fr to b=_:=O;rw[ca] at u;rw[cb] at G;simp only[Bt,Bg,A8] at u G;have J:=j4 a fr to H.2 H.1;have L:=j4 b fr to I.2 I.1;simp only[nP,u,G,Bt,Bg,Int.reduceEq] at J L;refine fn0 Cd.s_l09Two_k λX=>?_;simp -dsimp only[go_sem,cFd,da,db,fa,fb]
  repeat' first|simp -dsimp only[go_sem,cFd,da,db,fa,fb,u,G]|apply Br.mk<;>intro h<;>try simp -dsimp only[h]|refine aA.c (by first|exact bJ a H.2 H.1|exact bJ b I.2 I.1|exact dG a|exact dG b|exact dX fr to (bL a)|exact dX fr to (bL b)|exact J|exact L) ?_|refine aC ?_|fail
  all_goals simp_all [twV,nP]
theorem l6 (a b:List (List Int)) (fr to:Int) (G:bE a) (H:bE b):Fz F.kW [.sl 1 (E cC a),.sl 1 (E cC b),.agg (cFd fr to)] (.tup [mtV fr to a b,.v (.int .i64 (mtC fr to a b))]):=by
 by_cases u:jY fr to [a,b]=0
 rotate_left
 .have e1:(jY fr to [a,b] != 0)=true:=by simp[u]
  refine fn0 Cd.s_MatchDecks_k λX=>?_
  repeat' first|simp -dsimp only[go_sem,cFd,e1]|apply Br.mk<;>intro h<;>try simp -dsimp only[h]|refine aA.c (by first|exact aEP a b fr to G H) ?_|refine aC ?_|fail
  all_goals simp[mtV,mtC,u]
 obtain⟨⟨Z,db⟩,⟨fa,fb⟩,I,J⟩:=aCE u;have L:=fE Z fa;have M:=fE db fb;have va:twV fr to a b a=.sl 1 (E cSt (bT fr to a)):=by simp[twV,u]
 have vb:twV fr to a b b=.sl 1 (E cSt (bT fr to b)):=by simp[twV,u]
 have O:=dO fr to a;have U:=dO fr to b
 have V:Fz F.rF [.sl 1 (E cC a),.sl 1 (E cC b),.agg (cFd fr to)] (.tup [.sl 1 (E cSt (bT fr to a)),.sl 1 (E cSt (bT fr to b)),.v (.int .i64 0)]):=by
  have h:=aEP a b fr to G H;rw[va,vb,u] at h;exact h
 cases hs:iL fr to a&&iL fr to b
 .refine fn0 Cd.s_MatchDecks_k λX=>?_
  repeat' first|simp -dsimp only[go_sem,cFd,O,U]|apply Br.mk<;>intro h<;>try simp -dsimp only[h]|refine aA.c (by first|exact V|exact cK a fr to L I G.1|exact cK b fr to M J H.1) ?_|refine aC ?_|fail
  all_goals first|(simp_all [mtV,mtC];done)|(refine aU ?_;simp_all [mtV,mtC];done)
 have h1:iL fr to a=true:=by simp only[Au] at hs;exact hs.1
 have h2:iL fr to b=true:=by simp only[Au] at hs;exact hs.2
 rw[h1] at O;rw[h2] at U;refine fn0 Cd.s_MatchDecks_k λX=>?_;simp -dsimp only[go_sem,cFd,O,U]
 repeat' first|simp -dsimp only[go_sem,cFd,O,U,BP,Bool.or_false,De,Dk,CZ,DJ,Di]|apply Br.mk<;>intro h<;>try simp -dsimp only[h]|refine aA.c (by first|exact V|exact cK a fr to L I G.1|exact cK b fr to M J H.1|exact aFH a b fr to G H.1 L M I J|exact aFH b a fr to H G.1 M L J I) ?_|refine aC ?_|fail
 all_goals (have Y:mtC fr to a b=0:=by simp[mtC,u,hs]
            have hv:mtV fr to a b=.sl 1 (E cD (mtL fr to a b)):=by simp[mtV,Y]
            rw[Y,hv]
            first|exact⟨_,_,rfl,rfl⟩|(refine aU rfl)|trace_state)
end
section
variable [Vs.Envs]
attribute [local irreducible] Vs.Fn chOK areCh chTo chAt l03 chB rk cd3 chI stp stpTo stb pM
theorem aHL (l:List Int) (u:l.length<=1048576):Vs.Fn Tryz.prog F.pI [] [.sl 1 (E cI l)] (.loc (.b 0) 0 l.length) [some (.arr 1 (E cI l) false)]:=by
 refine fn1 Cd.s_l00Own_k [.t 5 0] [.arr 1 (E cI l) false] λX=>?_;unfold Cd.pI
 repeat' first|simp -dsimp only[go_sem,aH,AO,AP,aX,bG,aW,Ak,AA,Af,Ad]|apply Br.mk<;>intro h<;>try simp -dsimp only[h]|refine aC ?_|fail
 all_goals first|exact⟨_,_,rfl,rfl⟩
def vI (cf:Int->Int->Int) (i:Int) (o:List Int):Nat->Nat
 |0=>0
 |k+1=>if cf i (o.getD k 0)<0 then vI cf i o k else k+1
theorem aIU (u:Int->Int->Int) (i:Int) (o:List Int):vI u i o 0=0:=rfl
theorem aBA (u:Int->Int->Int) (i:Int) (o:List Int) (k:Nat):vI u i o (k+1)=if u i (o.getD k 0)<0 then vI u i o k else k+1:=rfl
theorem aE0 (u:Int->Int->Int) (i:Int) (o:List Int):∀k,vI u i o k<=k
 |0=>AL _
 | k+1=>by
  rw[vI];split
  .exact Nat.le_succ_of_le (aE0 u i o k)
  .exact AL _
def fQ (cf:Int->Int->Int):Nat->List Int
 |0=>[]
 |n+1=>(fQ cf n).take (vI cf n (fQ cf n) (fQ cf n).length)++[(n:Int)]++(fQ cf n).drop (vI cf n (fQ cf n) (fQ cf n).length)
theorem uT (u:Int->Int->Int):∀n,(fQ u n).Perm (iota n)
 |0=>List.Perm.refl _
 | n+1=>by
  rw[fQ,aD8];generalize vI u n (fQ u n) (fQ u n).length=k
  have F:((fQ u n).take k++[(n:Int)]++(fQ u n).drop k).Perm ((fQ u n).take k++(fQ u n).drop k++[(n:Int)]):=by
   rw[Bp,Bp];exact List.Perm.append_left _ List.perm_append_comm
  rw[Cj] at F;exact F.trans (Dc _ (uT u n))
theorem aCT (u:Int->Int->Int) (n:Nat):(fQ u n).length=n:=by rw[(uT u n).length_eq,nQ]
end
section
variable [Vs.Envs]
attribute [local irreducible] Vs.Fn chOK areCh chTo chAt l03 chB rk cd3 chI stp stpTo stb pM fQ vI
theorem aKa {fr to:Int}{l:List (List Int)}{x:Int} (h:inO l.length x):(E cSt (bT fr to l)).getD x.toNat []=[.v (.string (txt (fH fr to (l.getD x.toNat []))))]:=by
 have u:x.toNat<l.length:=by have:=h.1;have:=h.2;omega
 rw[aR (by simpa[bT] using u)];simp[cSt,bT,List.getD,u]
attribute [local go_sem] aH Ar Ay Az Bo Bq Vs.Name.t.injEq Ch Cf AO AP aX bG aW Ak AA Af Ad in
theorem aIE (l:List (List Int)) (fr to:Int) (ho:∀c,c∈l->okF fr to c) (hall:bW fr to l=true) (hl:l.length<=40):Fz F.pG [.sl 1 (E cSt (bT fr to l))] (.sl 1 (E cI (fQ (cfO fr to l) l.length))):=by
 have hkl:(E cSt (bT fr to l)).length=l.length:=by rw[aH];simp[bT]
 have hch:∀x,inO l.length x->cZ (fH fr to (l.getD x.toNat []))=true:=λx hx=>Aw.1 hall _ (nL hx)
 have hcp:∀x y,inO l.length x->inO l.length y->Fz F.fZ [.v (.string (txt (fH fr to (l.getD x.toNat [])))),.v (.string (txt (fH fr to (l.getD y.toNat []))))] (.v (.int .i64 (cfO fr to l x y))):=λx y hx hy =>
  wD _ _ (aBa (ho _ (nL hx))) (by rw[qH ho hx,qH ho hy]) (hch x hx) (hch y hy)
 have hke:∀x,inO l.length x->(E cSt (bT fr to l)).getD x.toNat []=[.v (.string (txt (fH fr to (l.getD x.toNat []))))]:=λx hx=>aKa hx;generalize E cSt (bT fr to l)=K at *
 generalize cfO fr to l=cf at *
 refine fn0 Cd.s_l07Places_k λX=>?_
 repeat' first|simp -dsimp only[go_sem,hkl]|apply Br.mk<;>intro h<;>try simp -dsimp only[h]|refine aC ?_|fail
 refine aO.at dM (X:={zz:Nat×(Unit) // zz.1<=l.length∧True}) (λzz=>[(3,.loc (.t 3 0) 0 zz.1.1),(4,.v (.int .i64 zz.1.1))]) (λzz=>[(.t 3 0,.arr 1 (E cI (fQ cf zz.1.1)) false)]) (λzz=>l.length-zz.1.1) ⟨(0,()),by omega,trivial⟩ ?_ ?_
 .simp[Vs.LeL,Vs.look,aB,aP,aJ,Vs.hset,aK,Vs.E,fQ]
 .rintro⟨⟨i,_⟩,hi,hg⟩;dsimp only at hi hg;simp -dsimp only[go_sem,hkl];refine Br.mk (λhc=>?_) λhc=>?_
  .have hlt:i<l.length:=Dq;have hw:=aI hlt (by omega);have hpl:=aCT cf i
   have hpi:∀k,k<i->inO l.length ((fQ cf i).getD k 0):=λk hk=>by
    have h1:=aCx _ ((uT cf i).mem_iff.1 (fT (by omega:k<(fQ cf i).length)));exact⟨h1.1,by have:=h1.2;omega⟩
   have hii:inO l.length (i:Int):=⟨by omega,by omega⟩;have hki:=hke _ hii;rw[Bw] at hki;have hps:fQ cf (i+1)=(fQ cf i).take (vI cf i (fQ cf i) (fQ cf i).length)++[(i:Int)]++(fQ cf i).drop (vI cf i (fQ cf i) (fQ cf i).length):=by rw[fQ]
   rw[hpl] at hps;have hdl:=aE0 cf i (fQ cf i) i;generalize fQ cf i=o at *
   generalize hd:vI cf i o i=d at *
   simp -dsimp only[go_sem,hkl,hw];refine aO.at dM (X:={k:Nat // k<=i∧vI cf i o k=d}) (λk=>[(5,.v (.int .i64 (k.1:Nat)))]) (λk=>[]) (λk=>k.1) ⟨i,AL _,hd⟩ ?_ ?_
   .exact le0
   .rintro⟨k,hk,hkd⟩
    try dsimp only at hk hkd
    match k,hk,hkd with
    | 0,hk,hkd =>
     have e1:decide (((0:Nat):Int)>0)=false:=rfl;obtain rfl:d=0:=by rw[←hkd,aIU]
     simp -dsimp only[go_sem,e1];have htk:(E cI o).take (0)=E cI (o.take (0)):=by simp[E,Cz]
     have hdk:((E cI o).drop (0)).take (i-(0))=E cI (o.drop (0)):=by rw[Ag (by rw[Cf,aH];omega)];simp[E,CW]
     have hlt2:(o.take (0)).length=0:=by first|(simp;done)|(simp;omega)
     have hdl2:(o.drop (0)).length=i-(0):=by rw[Cf,hpl]
     have OW:=aHL (o.take (0)) (by omega);rw[hlt2] at OW;have hap:E cI (o.take (0))++[[.v (.int .i64 (i:Int))]]=E cI (o.take (0)++[(i:Int)]):=by rw[aS];rfl
     have hfin:E cI (o.take (0)++[(i:Int)])++E cI (o.drop (0))=E cI (fQ cf (i+1)):=by simp only[hps,aS]
     have hz:((((0:Nat):Int))-0).toNat=0:=by omega
     have hz2:((i:Int)-((0:Nat):Int)).toNat=i-(0):=by omega
     have hz3:(((0:Nat):Int)).toNat=0:=by omega
     have hfb:∀b,some b∈[some (Blk.arr 1 (E cI (o.take (0))) false)]->aAg b:=by
      intro b hb;simp only[Ar,Aj] at hb;subst hb;exact aHP (λx=>rfl)
     refine RgK.mk rfl ?_;simp -dsimp only[go_sem,htk,hdk,hap,hfin,hw,hpl,hkl,e1];refine⟨⟨⟨by omega,by omega,by omega⟩,?_⟩,λh=>absurd rfl h⟩;simp only[hz,CZ];refine aA.lend OW rfl hfb rfl ?_;have hf0:[AV.v (.int .i64 (i:Int))]::E cI o=E cI (fQ cf (i+1)):=by simp only[hps];rfl
     have hnil:E cI []=[]:=rfl;have hta:(E cI o).take i=E cI o:=Ag (by rw[aH];omega);clear htk hdk hap hfin;simp -dsimp only[go_sem,hz,hz2,hz3,Nat.sub_zero,CZ,Ai,Ah,Al,Aq,Ac,Aa,Ab,AC,hf0,hnil,hta,hw,hpl,hkl,e1]
     repeat' first|refine aC ?_|fail
     have hsum:1+i=i+1:=by omega
     first
      |exact⟨⟨(i+1,()),by first|omega|exact⟨by omega,trivial⟩,trivial⟩,by simp[Vs.LeL,Vs.look,aB,aP,aJ,Vs.hset,aK,hsum],by simp only;omega⟩

    | k+1,hk,hkd =>
     have e1:decide (((k+1:Nat):Int)>0)=true:=by first|(simp;done)|(simp;omega)
     have w1:IntKind.i64.wrap (((k+1:Nat):Int)-1)=(k:Int):=by rw[aM (by omega) (by omega)];omega
     have hj:=hpi k (by omega);have hj0:=hj.1;have hj1:=hj.2;have hkj:=hke _ hj;have hoj:(E cI o).getD k []=[.v (.int .i64 (o.getD k 0))]:=iH (by omega);have HC:=hcp _ _ hii hj;rw[Bw] at HC;rw[aBA] at hkd;by_cases hneg:cf i (o.getD k 0)<0
     .have e2:decide (cf i (o.getD k 0)<0)=true:=AR hneg;rw[AY hneg] at hkd;simp -dsimp only[go_sem,e1,e2]
      repeat' first|simp -dsimp only[go_sem,e1,e2,w1,hkj,hki,hoj,hkl,hpl]|apply Br.mk<;>intro h<;>try simp -dsimp only[h]|refine aA.c (by first|exact HC) ?_|refine aC ?_|fail
      all_goals first|(exact⟨⟨k,by omega,hkd⟩,by simp[Vs.LeL,Vs.look,aB,aP,aJ,Vs.hset,aK],by simp only;omega⟩)|omega
     .have e2:decide (cf i (o.getD k 0)<0)=false:=AX hneg;rw[AJ hneg] at hkd;obtain rfl:d=k+1:=hkd.symm;simp -dsimp only[go_sem,e1,e2];have htk:(E cI o).take (k+1)=E cI (o.take (k+1)):=by simp[E,Cz]
      have hdk:((E cI o).drop (k+1)).take (i-(k+1))=E cI (o.drop (k+1)):=by rw[Ag (by rw[Cf,aH];omega)];simp[E,CW]
      have hlt2:(o.take (k+1)).length=k+1:=by first|(simp;done)|(simp;omega)
      have hdl2:(o.drop (k+1)).length=i-(k+1):=by rw[Cf,hpl]
      have OW:=aHL (o.take (k+1)) (by omega);rw[hlt2] at OW;have hap:E cI (o.take (k+1))++[[.v (.int .i64 (i:Int))]]=E cI (o.take (k+1)++[(i:Int)]):=by rw[aS];rfl
      have hfin:E cI (o.take (k+1)++[(i:Int)])++E cI (o.drop (k+1))=E cI (fQ cf (i+1)):=by simp only[hps,aS]
      have hz:((((k+1:Nat):Int))-0).toNat=k+1:=by omega
      have hz2:((i:Int)-((k+1:Nat):Int)).toNat=i-(k+1):=by omega
      have hz3:(((k+1:Nat):Int)).toNat=k+1:=by omega
      have hfb:∀b,some b∈[some (Blk.arr 1 (E cI (o.take (k+1))) false)]->aAg b:=by
       intro b hb;simp only[Ar,Aj] at hb;subst hb;exact aHP (λx=>rfl)
      refine RgK.mk rfl ?_;simp -dsimp only[go_sem,htk,hdk,hap,hfin,hw,hpl,hkl,e1,e2,w1,hj0,hj1,hkj,hki,hoj];refine⟨⟨by omega,by omega⟩,⟨by omega,by omega⟩,aA.flat HC rfl ?_⟩;simp -dsimp only[go_sem,htk,hdk,hap,hfin,hw,hpl,hkl,e1,e2,w1,hj0,hj1,hkj,hki,hoj];refine⟨⟨⟨by omega,by omega,by omega⟩,?_⟩,λh=>absurd rfl h⟩;simp only[hz,htk];refine aA.lend OW rfl hfb rfl ?_;simp -dsimp only[go_sem,hz,hz2,hz3,Nat.sub_zero,CZ,Ai,Ah,Al,Aq,Ac,Aa,Ab,AC,htk,hdk,hap,hfin,hlt2,hdl2,hw,hpl,hkl]
      repeat' first|refine aC ?_|fail
      have hsum:k+1+1+(i-(k+1))=i+1:=by omega
      first
       |exact⟨⟨(i+1,()),by first|omega|exact⟨by omega,trivial⟩,trivial⟩,by simp[Vs.LeL,Vs.look,aB,aP,aJ,Vs.hset,aK,hsum],by simp only;omega⟩

  .have hge:i=l.length:=by
    have:¬i<l.length:=Dq;omega
   subst hge;simp -dsimp only[go_sem,hkl];have hpl:=aCT cf l.length;have htk:(E cI (fQ cf l.length)).take l.length=E cI (fQ cf l.length):=Ag (by rw[aH];omega)
   first|exact⟨⟨_,_,rfl,rfl⟩,λh=>h rfl⟩|(rw[htk];exact⟨⟨_,_,rfl,rfl⟩,λh=>h rfl⟩)|(simp[htk];done)
end
section
variable [Vs.Envs]
attribute [local irreducible] Vs.Fn chOK areCh chTo chAt l03 chB rk cd3 chI stp stpTo
theorem aHS (u:Int->Int->Int) (i:Int) (o:List Int):∀K k,vI u i o K<=k->k<K->u i (o.getD k 0)<0
 |0,k,_,h=>by omega
 | K+1,k,h1,h2=>by
  rw[aBA] at h1;split at h1
  .rename_i G;by_cases F:k=K
   .subst F;exact G
   .exact aHS u i o K k h1 (by omega)
  .omega
theorem aHR (u:Int->Int->Int) (i:Int) (o:List Int):∀K,0<vI u i o K->¬u i (o.getD (vI u i o K-1) 0)<0
 |0,h=>by simp[vI] at h
 | K+1,h=>by
  rw[aBA] at h⊢;split
  .rename_i F;rw[AY F] at h;exact aHR u i o K h
  .rename_i F;exact F
theorem aFo {fr to:Int}{l:List (List Int)} (ho:∀c,c∈l->okF fr to c):∀n,n<=l.length->(fQ (cfO fr to l) n).Pairwise (xO fr to l)
 |0,_=>List.Pairwise.nil
 | n+1,h=>by
  have ih:=aFo ho n (by omega);have hin:∀x,x∈fQ (cfO fr to l) n->inO n x:=λx H=>aCx x ((uT _ n).mem_iff.1 H);have hd:=aCT (cfO fr to l) n;rw[fQ];have U:=aHS (cfO fr to l) n (fQ (cfO fr to l) n) (fQ (cfO fr to l) n).length;have Y:=aHR (cfO fr to l) n (fQ (cfO fr to l) n) (fQ (cfO fr to l) n).length;have hf:=aE0 (cfO fr to l) n (fQ (cfO fr to l) n) (fQ (cfO fr to l) n).length;generalize vI (cfO fr to l) n (fQ (cfO fr to l) n) (fQ (cfO fr to l) n).length=d at *
  generalize fQ (cfO fr to l) n=o at *
  have hn:inO l.length (n:Int):=⟨by omega,by omega⟩;have G:∀x,inO n x->inO l.length x:=λx H=>⟨H.1,by have:=H.2;omega⟩
  have O:∀y,y∈o.drop d->xO fr to l n y:=by
   intro y hy;obtain⟨j,hj,rfl⟩:=Ct.1 hy;rw[Cf] at hj;rw[List.getElem_drop];have hm:o[d+j]∈o:=Am _;have J:=U (d+j) (by omega) (by omega);have e:o.getD (d+j) 0=o[d+j]:=by simp[List.getD,(by omega:d+j<o.length)]
   rw[e] at J;exact⟨⟨hn,G _ (hin _ hm)⟩,.inl J⟩
  have Z:∀x,x∈o.take d->xO fr to l x n:=by
   intro x H;obtain⟨j,hj,rfl⟩:=List.mem_take_iff_getElem.1 H;have he:j<d:=by omega
   have I:d-1<o.length:=by omega
   have J:=Y (by omega);have e:o.getD (d-1) 0=o[d-1]:=by simp[List.getD,I]
   rw[e] at J;have hm:o[d-1]∈o:=Am _;have F:=hin _ hm;have M:=aCF ho hn (G _ F)
   have u:xO fr to l o[d-1] n:=by
    refine⟨⟨G _ F,hn⟩,?_⟩;by_cases h0:cfO fr to l o[d-1] n=0
    .exact .inr ⟨h0,F.2⟩
    .exact .inl (by omega)
   by_cases V:j=d-1
   .subst V;exact u
   .exact mE ho _ _ _ (Dp.1 ih j (d-1) (by omega) I (by omega)) u
  have hc:(o.take d++o.drop d).Pairwise (xO fr to l):=by rw[Cj];exact ih
  obtain⟨p1,p2,p3⟩:=Bu.1 hc;rw[Bp,Bu];refine⟨p1,?_,?_⟩
  .rw[List.singleton_append,CE];exact⟨O,p2⟩
  .intro a M b L;rw[List.singleton_append,Ay] at L;rcases L with rfl|L
   .exact Z a M
   .exact p3 a M b L
theorem aLp {fr to:Int}{l:List (List Int)} (u:∀c,c∈l->okF fr to c) (G:l.length<=40):fQ (cfO fr to l) l.length=pM fr to l:=by
 obtain⟨F,h2⟩:=aCV u G;exact aEC (mE u) (aBp u) ((uT _ _).trans F.symm) (aFo u _ (AL _)) h2
end
section
variable [Vs.Envs]
attribute [local irreducible] Vs.Fn chOK areCh chTo chAt l03 chB rk cd3 chI stp stpTo stb pM fQ vI
attribute [local go_sem] aH Ai Ah Al Aq Ad Af Ac Ae Aa Ab Ao
theorem aJj (l:List (List Int)) (fr to:Int) (L:∀x,x∈l->x.length<=1048576) (J:l.length<=1048576):Fz F.rY [.sl 1 (E cC l),.agg (cFd fr to)] (.v (.int .i64 (bD fr to l))):=by
 have G:=bY l L J;have H:=eZ l;have u:=wF fr to (bL l);cases hd:bB l
 .rw[hd] at G;rw[show bD fr to l=1 by simp[bD,hd]];refine fn0 Cd.i_sortCode_k λX=>?_
  repeat' first|simp -dsimp only[go_sem,cC,cFd]|apply Br.mk<;>intro h<;>try simp -dsimp only[h]|refine aA.c (by first|exact G|exact H|exact u) ?_|refine aC ?_|fail
  all_goals first|exact⟨_,_,rfl,rfl⟩|simp
 rw[hd] at G;cases hf:eF fr to (bL l)
 .rw[hf] at u;rw[show bD fr to l=2 by simp[bD,hd,hf]];refine fn0 Cd.i_sortCode_k λX=>?_
  repeat' first|simp -dsimp only[go_sem,cC,cFd]|apply Br.mk<;>intro h<;>try simp -dsimp only[h]|refine aA.c (by first|exact G|exact H|exact u) ?_|refine aC ?_|fail
  all_goals first|exact⟨_,_,rfl,rfl⟩|simp
 rw[hf] at u;have I:=qX l fr to (fE hd hf) J;cases ha:bW fr to l
 .rw[ha] at I;rw[show bD fr to l=8 by simp[bD,hd,hf,ha]];refine fn0 Cd.i_sortCode_k λX=>?_
  repeat' first|simp -dsimp only[go_sem,cC,cFd]|apply Br.mk<;>intro h<;>try simp -dsimp only[h]|refine aA.c (by first|exact G|exact H|exact u|exact I) ?_|refine aC ?_|fail
  all_goals first|exact⟨_,_,rfl,rfl⟩|simp
 rw[ha] at I;rw[show bD fr to l=0 by simp[bD,hd,hf,ha]];refine fn0 Cd.i_sortCode_k λX=>?_
 repeat' first|simp -dsimp only[go_sem,cC,cFd]|apply Br.mk<;>intro h<;>try simp -dsimp only[h]|refine aA.c (by first|exact G|exact H|exact u|exact I) ?_|refine aC ?_|fail
 all_goals first|exact⟨_,_,rfl,rfl⟩|simp
def oF (fr to:Int) (l:List (List Int)):AV:=if bD fr to l=0 then .sl 1 (E cC (eU fr to l)) else .v (.slice none 0 0)
theorem aCw {fr to:Int}{l:List (List Int)} (h:bD fr to l=0):bB l=true∧eF fr to (bL l)=true∧bW fr to l=true:=by
 unfold bD at h;cases hd:bB l<;>cases hf:eF fr to (bL l)<;>cases ha:bW fr to l<;>simp[hd,hf,ha] at h⊢
theorem lD {l:List (List Int)} (h:bB l=true):l.length<=40:=by
 simp only[bB,Au,Bb] at h;exact h.2
theorem aDL (l:List (List Int)) (fr to:Int) (O:∀x,x∈l->x.length<=1048576) (M:l.length<=1048576):Fz F.sI [.sl 1 (E cC l),.agg (cFd fr to)] (.tup [oF fr to l,.v (.int .i64 (bD fr to l))]):=by
 have G:=aJj l fr to O M;by_cases u:bD fr to l=0
 .obtain⟨H,L,U⟩:=aCw u;have I:=aAC l fr to (fE H L) (lD H);rw[show oF fr to l=.sl 1 (E cC (eU fr to l)) by simp[oF,u],u];rw[u] at G;refine fn0 Cd.i_SortedBy_k λX=>?_
  repeat' first|simp -dsimp only[go_sem,cC,cFd]|apply Br.mk<;>intro h<;>try simp -dsimp only[h]|refine aA.c (by first|exact G|exact I) ?_|refine aC ?_|fail
  all_goals first|exact⟨_,_,rfl,rfl⟩|simp
 .have J:(bD fr to l != 0)=true:=by simp[u]
  rw[show oF fr to l=.v (.slice none 0 0) by simp[oF,u]];generalize bD fr to l=c at *
  refine fn0 Cd.i_SortedBy_k λX=>?_
  repeat' first|simp -dsimp only[go_sem,cC,cFd,J]|apply Br.mk<;>intro h<;>try simp -dsimp only[h]|refine aA.c (by first|exact G) ?_|refine aC ?_|fail
  all_goals first|exact⟨_,_,rfl,rfl⟩|simp
theorem jL (l:List (List Int)) (fr to:Int) (hs:∀x,x∈l->x.length<=1048576) (hl:l.length<=1048576):Fz F.mD [.sl 1 (E cC l),.agg (cFd fr to)] (.tup [oF fr to l,.v (.int .i64 (bD fr to l))]):=by
 have KS:=j4 l fr to hs hl;by_cases h0:bD fr to l=0
 .obtain⟨hd,hf,ha⟩:=aCw h0;have ho:=fE hd hf;have h40:=lD hd;have PL:=aIE l fr to ho ha h40;rw[aLp ho h40] at PL;rw[show oF fr to l=.sl 1 (E cC (eU fr to l)) by simp[oF,h0],h0];rw[show nP fr to l=.sl 1 (E cSt (bT fr to l)) by simp[nP,h0],h0] at KS;have hol:=uU fr to l;have hoi:=aEJ ho h40;rw[show eU fr to l=(pM fr to l).map (λi=>l.getD i.toNat []) from rfl];generalize pM fr to l=o at *
  refine fn0 Cd.s_SortedBy_k λX=>?_
  repeat' first|simp -dsimp only[go_sem,cC,cFd]|apply Br.mk<;>intro h<;>try simp -dsimp only[h]|refine aA.c (by first|exact KS|exact PL) ?_|refine aC ?_|fail
  refine aO.at dM (X:={zz:Nat×(Unit) // zz.1<=o.length∧True}) (λzz=>[(9,.loc (.t 9 0) 0 zz.1.1),(10,.v (.int .i64 zz.1.1))]) (λzz=>[(.t 9 0,.arr 1 (E cC ((o.take zz.1.1).map λi=>l.getD i.toNat [])) false)]) (λzz=>o.length-zz.1.1) ⟨(0,()),by omega,trivial⟩ ?_ ?_
  .simp[Vs.LeL,Vs.look,aB,aP,aJ,Vs.hset,aK,Vs.E]
  .rintro⟨⟨i,_⟩,hi,hg⟩;dsimp only at hi hg;simp -dsimp only[go_sem,cC,cFd];refine Br.mk (λhc=>?_) λhc=>?_
   .have hlt:i<o.length:=Dq;have hw:=aI hlt (by omega);have hx:=hoi _ (Am hlt);have gx:=aBG hx;have hm:=nL hx;have hc20:(l.getD o[i].toNat []).length<=20:=(ho _ hm).2.2.2;have NC:=xS (l.getD o[i].toNat []) (by omega);have x0:=hx.1;have x1:=hx.2
    have hap:E cC ((o.take i).map λi=>l.getD i.toNat [])++[[.sl 1 (E cI (l.getD o[i].toNat []))]]=E cC ((o.take (i+1)).map λi=>l.getD i.toNat []):=by
     rw[bU hlt,Cm,aS];rfl
    have hal:(E cC ((o.take i).map λi=>l.getD i.toNat [])).length=i:=by rw[aH];simp;omega
    repeat' first|simp -dsimp only[go_sem,dJ hlt,hw,hap,hal,gx,cC,cFd]|apply Br.mk<;>intro h<;>try simp -dsimp only[h]|refine aA.c (by first|exact NC) ?_|refine aC ?_|fail
    all_goals first|omega|(exact nx (i+1,()) trivial (h2:=by simp[Vs.LeL,Vs.look,aB,aP,aJ,Vs.hset,aK,hap]))
   .have hge:i=o.length:=by
     have:¬i<o.length:=Dq;omega
    subst hge;simp -dsimp only[go_sem,cC,cFd]
    have htk:(E cC ((o.take o.length).map λi=>l.getD i.toNat [])).take o.length=E cC (o.map λi=>l.getD i.toNat []):=by
     rw[Ag (AL o.length)];exact Ag (by rw[aH];simp)
    first|exact⟨⟨_,_,rfl,rfl⟩,λh=>h rfl⟩|(rw[htk];exact⟨⟨_,_,rfl,rfl⟩,λh=>h rfl⟩)|(simp[htk];done)
 .have e0:(bD fr to l != 0)=true:=by simp[h0]
  rw[show oF fr to l=.v (.slice none 0 0) by simp[oF,h0]];rw[show nP fr to l=.v (.slice none 0 0) by simp[nP,h0]] at KS;generalize bD fr to l=c at *
  refine fn0 Cd.s_SortedBy_k λX=>?_
  repeat' first|simp -dsimp only[go_sem,cC,cFd,e0]|apply Br.mk<;>intro h<;>try simp -dsimp only[h]|refine aA.c (by first|exact KS) ?_|refine aC ?_|fail
  all_goals first|exact⟨_,_,rfl,rfl⟩|simp
end
end Go.Proofs.YtmiiohemehacjaaGreatDoor
