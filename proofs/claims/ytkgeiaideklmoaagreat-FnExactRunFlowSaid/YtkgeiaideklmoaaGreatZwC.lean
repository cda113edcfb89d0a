/- Offices: sizes, copies, comparisons. -/
import Derived.Test.YtkgeiaideklmoaaGreatZwK
import Derived.Test.YtkgeiaideklmoaaGreatZuS
import Derived.Test.YtkgeiaideklmoaaGreatZuR
import Derived.Test.YtkgeiaideklmoaaGreatVtR
set_option linter.all false
set_option maxHeartbeats 8000000
namespace Go.Proofs.YtkgeiaideklmoaaGreat
open Go.Vs
section
variable [Vs.Envs]
attribute [local irreducible] Vs.Fn
def cFd (fr to:Int):List AV:=[.v (.int .i64 fr),.v (.int .i64 to)]
def bJ (l:List (List Int)):Int:=if l.length=0 then 20 else((l.getD 0 []).length:Int)
theorem eZ (l:List (List Int)):Fz F.j6 [.sl 1 (E cC l)] (.v (.int .i64 (bJ l))):=by
 refine fn0 Cd.s_l07Width_k λX=>?_;simp -dsimp only[go_sem,cC];by_cases h0:l.length=0
 .have H:((l.length:Int)==0)=true:=BN.2 (by omega)
  repeat' first|simp -dsimp only[go_sem,H,cC]|apply Br.mk<;>intro h<;>try simp -dsimp only[h]|refine aC ?_|fail
  all_goals simp[bJ,h0]
 .have H:((l.length:Int)==0)=false:=AC.2 (by omega);have I:0<l.length:=by omega
  have J:(E cC l).getD 0 []=[.sl 1 (E cI l[0])]:=aN I;have L:l.getD 0 []=l[0]:=by simp[List.getD,I]
  repeat' first|simp -dsimp only[go_sem,H,J,cC]|apply Br.mk<;>intro h<;>try simp -dsimp only[h]|refine aC ?_|fail
  all_goals simp_all [bJ]
theorem iF (l:List (List Int)):Fz F.gG [.sl 1 (E cC l)] (.v (.int .i64 (bJ l))):=by
 refine fn0 Cd.i_deckColumns_k λX=>?_;simp -dsimp only[go_sem,cC];by_cases h0:l.length=0
 .have H:((l.length:Int)==0)=true:=BN.2 (by omega)
  repeat' first|simp -dsimp only[go_sem,H,cC]|apply Br.mk<;>intro h<;>try simp -dsimp only[h]|refine aB.c (by first|exact pX l[0]) ?_|refine aC ?_|fail
  all_goals simp[bJ,h0]
 .have H:((l.length:Int)==0)=false:=AC.2 (by omega);have I:0<l.length:=by omega
  have J:(E cC l).getD 0 []=[.sl 1 (E cI l[0])]:=aN I;have L:l.getD 0 []=l[0]:=by simp[List.getD,I]
  repeat' first|simp -dsimp only[go_sem,H,J,cC]|apply Br.mk<;>intro h<;>try simp -dsimp only[h]|refine aB.c (by first|exact pX l[0]) ?_|refine aC ?_|fail
  all_goals simp_all [bJ]
def lT (fr to:Int) (c:List Int):Int×Bool:=xW ((c.take to.toNat).drop fr.toNat).dropLast (((c.take to.toNat).drop fr.toNat).getLastD 0)
def okP (fr to:Int) (c:List Int):Prop:=0<=fr∧fr<to∧to<=c.length∧to-fr<=12∧c.length<=20∧∀x,x∈c->0<=x∧x<=4095
theorem aFK {fr to:Int}{c:List Int} (h:okP fr to c):∃u x,(c.take to.toNat).drop fr.toNat=u++[x]∧u.length+1<=12∧0<=x∧x<=4095∧lT fr to c=xW u x:=by
 obtain⟨h0,O,h2,U,Y,J⟩:=h;have F:((c.take to.toNat).drop fr.toNat).length=to.toNat-fr.toNat:=by simp;omega
 have H:(c.take to.toNat).drop fr.toNat≠[]:=by intro e;rw[e] at F;simp at F;omega
 have L:=List.dropLast_concat_getLast H;have I:=J (((c.take to.toNat).drop fr.toNat).getLast H) (CE (C8 (List.getLast_mem H)));refine⟨_,_,L.symm,?_,I.1,I.2,?_⟩
 .rw[List.length_dropLast,F];omega
 .unfold lT;rw[List.getLastD_eq_getLast?,List.getLast?_eq_some_getLast H];rfl
theorem aJa {fr to:Int}{c:List Int} (h:okP fr to c):Fz F.pM [.agg (cC c),.agg (cFd fr to)] (.tup [.v (.int .i64 (lT fr to c).1),.v (.bool (lT fr to c).2)]):=by
 obtain⟨u,x,I,J,_,_,H⟩:=aFK h;obtain⟨h0,L,h2,O,U,Y⟩:=h;rw[H];exact aKH c fr to u x h0 (by omega) h2 I J
theorem aAh {fr to:Int}{c:List Int} (h:okP fr to c):Fz F.mX [.sl 1 (E cI ((c.take to.toNat).drop fr.toNat))] (.tup [.v (.int .i64 (lT fr to c).1),.v (.bool (lT fr to c).2)]):=by
 obtain⟨u,x,L,O,H,I,J⟩:=aFK h;rw[J,L];exact aJo u x H I O
theorem aKA {fr to:Int}{c:List Int} (h:okP fr to c):Fz F.oO [.ro (cC c),.agg (cFd fr to)] (.sl 1 (E cI ((c.take to.toNat).drop fr.toNat))):=by
 obtain⟨h0,H,h2,I,J,L⟩:=h;exact part c fr to h0 (by omega) h2
end
section
variable [Vs.Envs]
attribute [local irreducible] Vs.Fn bK aO bL bM l03 chB rk cd3
attribute [local go_sem] Af Ag Al Aq Ae Ai Ac Ak Ab Ah Am
theorem vQ {l:List Int} (h:dC l=true) {i:Nat} (hi:i<l.length):0<=rk l[i]:=by
 simp only[dC,Az,Bb] at h;exact h _ (Aa hi)
theorem aHL {l:List Int}{i:Nat} (hi:i<l.length):E cU ((l.map chI).take i)++[[.v (.int .u8 (chI l[i]))]]=E cU ((l.map chI).take (i+1)):=by
 have h2:i<(l.map chI).length:=by simpa using hi
 rw[aY h2,bH];simp[E,cU]
theorem aHM {l:List Int}{i:Nat} (hi:i<=l.length):((l.map chI).take i).length=i:=by simp;omega
theorem aLv (m:Int):(chB (rk m).toNat:Int)=chI m:=rfl
theorem yP (l:List Int):aCy ((l.map chI).take l.length)=txt l:=by unfold txt;rw[Aj (by simp)]
attribute [local irreducible] chI
theorem textOf (l:List Int) (hl:l.length<=1048576) (hh:dC l=true):Fz F.yC [.sl 1 (E cI l)] (.v (.string (txt l))):=by
 refine fn0 Cd.i_textOf_k λX=>?_;simp -dsimp only[go_sem];refine⟨⟨by omega,by omega⟩,?_⟩;refine aM.at dM (X:={zz:Nat×(Unit) // zz.1<=l.length∧True}) (λzz=>[(3,.loc (.t 3 0) 0 zz.1.1),(9,.v (.int .i64 zz.1.1))]) (λzz=>[(.t 3 0,.arr 1 (E cU ((l.map chI).take zz.1.1)) false)]) (λzz=>l.length-zz.1.1) ⟨(0,()),by omega,trivial⟩ ?_ ?_
 .simp[Vs.LeL,Vs.look,aA,aS,aJ,Vs.hset,aK,Vs.E]
 .rintro⟨⟨i,_⟩,hi,hg⟩;dsimp only at hi hg;simp -dsimp only[go_sem,sN,yP];refine Br.mk (λhc=>?_) λhc=>?_
  .have hlt:i<l.length:=Dq;have hw:=aG hlt hl;have hr:=vQ hh hlt;have hr2:=(aCD l[i]).2;have hap:=aHL hlt;have htl:=aHM (l:=l) (i:=i) (by omega)
   repeat' first|simp -dsimp only[go_sem,hw,dJ hlt,chL,chS,aLv,hap,htl,aH]|apply Br.mk<;>intro h<;>try simp -dsimp only[h]|refine aB.c (by first|exact aCK _) ?_|refine aC ?_|fail
   all_goals first|omega|(exact nx (i+1,()) trivial)
  .have hge:i=l.length:=by
    have:¬i<l.length:=Dq;omega
   subst hge;simp -dsimp only[go_sem,sN,yP];have ht:(E cU ((l.map chI).take l.length)).take l.length=E cU ((l.map chI).take l.length):=Aj (by simp[Vs.E]);simp[ht,sN,yP]
def aC3 (l:List Int):ByteArray×Bool:=if dC l then(txt l,true) else(⟨#[]⟩,false)
theorem aHl {l:List Int}{i:Nat} (hi:i<l.length) (h:dC (l.take i)=true) (h2:0<=rk l[i]):dC (l.take (i+1))=true:=by
 unfold dC at h⊢;exact bD (p:=λm=>decide (0<=rk m)) hi h (by simpa using h2)
theorem aEa {l:List Int}{i:Nat} (hi:i<l.length) (h2:¬0<=rk l[i]):dC l=false:=by
 unfold dC;exact gY (p:=λm=>decide (0<=rk m)) hi (by simpa using h2)
theorem aMw (l:List Int) (hl:l.length<=1048576):Fz F.uU [.sl 1 (E cI l)] (.tup [.v (.string (aC3 l).1),.v (.bool (aC3 l).2)]):=by
 refine fn0 Cd.s_l03Text_k λX=>?_;simp -dsimp only[go_sem];refine⟨⟨by omega,by omega⟩,?_⟩;refine aM.at dM (X:={zz:Nat×(Unit) // zz.1<=l.length∧dC (l.take zz.1)=true}) (λzz=>[(4,.loc (.t 4 0) 0 zz.1.1),(5,.v (.int .i64 zz.1.1))]) (λzz=>[(.t 4 0,.arr 1 (E cU ((l.map chI).take zz.1.1)) false)]) (λzz=>l.length-zz.1.1) ⟨(0,()),by omega,by simp[dC]⟩ ?_ ?_
 .simp[Vs.LeL,Vs.look,aA,aS,aJ,Vs.hset,aK,Vs.E]
 .rintro⟨⟨i,_⟩,hi,hg⟩;dsimp only at hi hg;simp -dsimp only[go_sem,sN,yP];refine Br.mk (λhc=>?_) λhc=>?_
  .have hlt:i<l.length:=Dq;have hw:=aG hlt hl;have hr2:=(aCD l[i]).2;have hap:=aHL hlt;have htl:=aHM (l:=l) (i:=i) (by omega);by_cases hz:0<=rk l[i]
   .have e1:aF0 l[i]=(chI l[i],true):=by simp[aF0,hz]
    repeat' first|simp -dsimp only[go_sem,hw,dJ hlt,e1,hap,htl,aH]|apply Br.mk<;>intro h<;>try simp -dsimp only[h]|refine aB.c (by first|exact aIm _) ?_|refine aC ?_|fail
    all_goals first|omega|(exact nx (i+1,()) (aHl hlt hg hz))
   .have e1:aF0 l[i]=(0,false):=by simp[aF0,hz]
    repeat' first|simp -dsimp only[go_sem,hw,dJ hlt,e1]|apply Br.mk<;>intro h<;>try simp -dsimp only[h]|refine aB.c (by first|exact aIm _) ?_|refine aC ?_|fail
    all_goals first|omega|(refine bN ?_;simp[aC3,aEa hlt hz];done)|(simp[aC3,aEa hlt hz];done)
  .have hge:i=l.length:=by
    have:¬i<l.length:=Dq;omega
   subst hge;simp -dsimp only[go_sem,sN,yP];have hh:dC l=true:=by simpa using hg
   have ht:(E cU ((l.map chI).take l.length)).take l.length=E cU ((l.map chI).take l.length):=Aj (by simp[Vs.E]);simp[ht,sN,yP,aC3,hh]
def jC:List Int->List Int->Int
 |x::a,y::b=>if rk x<rk y then -1 else if rk x>rk y then 1 else jC a b
 |_,_=>0
theorem aEi {a b:List Int}{i:Nat} (F:i<a.length) (H:i<b.length):jC (a.drop i) (b.drop i)=if rk a[i]<rk b[i] then -1 else if rk a[i]>rk b[i] then 1 else jC (a.drop (i+1)) (b.drop (i+1)):=by
 rw[BS F,BS H,jC]
theorem aA4 (a b:List Int) (hl:a.length<=1048576) (hab:a.length=b.length):Fz F.iT [.sl 1 (E cI a),.sl 1 (E cI b)] (.v (.int .i64 (jC a b))):=by
 refine fn0 Cd.i_compareHoles_k λX=>?_;simp -dsimp only[go_sem];refine aM.at dM (X:={zz:Nat×(Unit) // zz.1<=a.length∧jC (a.drop zz.1) (b.drop zz.1)=jC a b}) (λzz=>[(10,.v (.int .i64 zz.1.1))]) (λzz=>[]) (λzz=>a.length-zz.1.1) ⟨(0,()),by omega,by simp⟩ ?_ ?_
 .exact le0
 .rintro⟨⟨i,_⟩,hi,hg⟩;dsimp only at hi hg;simp -dsimp only[go_sem];refine Br.mk (λhc=>?_) λhc=>?_
  .have hlt:i<a.length:=Dq;have hw:=aG hlt hl;have hlb:i<b.length:=by omega
   rw[aEi hlt hlb] at hg;by_cases h1:rk a[i]<rk b[i]
   .have e1:decide (rk a[i]<rk b[i])=true:=A7 h1;rw[AP h1] at hg
    repeat' first|simp -dsimp only[go_sem,hw,dJ hlt,dJ hlb,e1]|apply Br.mk<;>intro h<;>try simp -dsimp only[h]|refine aB.c (by first|exact aCK _) ?_|refine aC ?_|fail
    all_goals first|omega|(refine bN ?_;simp[←hg];done)|(simp[←hg];done)
   .have e1:decide (rk a[i]<rk b[i])=false:=AO h1;rw[AB h1] at hg;by_cases h2:rk a[i]>rk b[i]
    .have e2:decide (rk a[i]>rk b[i])=true:=A7 h2;rw[AP h2] at hg
     repeat' first|simp -dsimp only[go_sem,hw,dJ hlt,dJ hlb,e1,e2]|apply Br.mk<;>intro h<;>try simp -dsimp only[h]|refine aB.c (by first|exact aCK _) ?_|refine aC ?_|fail
     all_goals first|omega|(refine bN ?_;simp[←hg];done)|(simp[←hg];done)
    .have e2:decide (rk a[i]>rk b[i])=false:=AO h2;rw[AB h2] at hg
     repeat' first|simp -dsimp only[go_sem,hw,dJ hlt,dJ hlb,e1,e2]|apply Br.mk<;>intro h<;>try simp -dsimp only[h]|refine aB.c (by first|exact aCK _) ?_|refine aC ?_|fail
     all_goals first|omega|(exact nx (i+1,()) hg)
  .have hge:i=a.length:=by
    have:¬i<a.length:=Dq;omega
   subst hge;simp -dsimp only[go_sem]
   have hg2:jC a b=0:=by
    rw[←hg,CV];cases b.drop a.length<;>rfl
   simp[hg2]
theorem aCt (l:List Int):(txt l).size=l.length:=by simp[txt,aCy,ByteArray.size]
theorem aEw {l:List Int} (h:dC l=true) {i:Nat} (hi:i<l.length):((txt l).data.toList.getD i 0).toNat=chB (rk l[i]).toNat:=by
 have h2:=aN7 (rk l[i]).toNat (by have:=(aCD l[i]).2;omega);have F:=aLv l[i];simp only[txt,aCy,A8,Cu,Ba hi,AU,Ce,←F,BP];rw[UInt8.toNat_ofNat',Nat.mod_eq_of_lt (by simpa using h2)]
theorem wM (a b:List Int) (hl:a.length<=1048576) (hab:a.length=b.length) (ha:dC a=true) (hb:dC b=true):Fz F.fP [.v (.string (txt a)),.v (.string (txt b))] (.v (.int .i64 (jC a b))):=by
 have hsa:=aCt a;have hsb:=aCt b;refine fn0 Cd.s_l03Compare_k λX=>?_;simp -dsimp only[go_sem];refine aM.at dM (X:={zz:Nat×(Unit) // zz.1<=a.length∧jC (a.drop zz.1) (b.drop zz.1)=jC a b}) (λzz=>[(5,.v (.int .i64 zz.1.1))]) (λzz=>[]) (λzz=>a.length-zz.1.1) ⟨(0,()),by omega,by simp⟩ ?_ ?_
 .exact le0
 .rintro⟨⟨i,_⟩,hi,hg⟩;dsimp only at hi hg;simp -dsimp only[go_sem,hsa,hsb];refine Br.mk (λhc=>?_) λhc=>?_
  .have hlt:i<a.length:=Dq;have hw:=aG hlt hl;have hlb:i<b.length:=by omega
   rw[aEi hlt hlb] at hg;have ra:=vQ ha hlt;have rb:=vQ hb hlb;have ra2:=(aCD a[i]).2;have rb2:=(aCD b[i]).2;have ta:=aEw ha hlt;have tb:=aEw hb hlb;have na:((rk a[i]).toNat:Int)=rk a[i]:=by omega
   have nb:((rk b[i]).toNat:Int)=rk b[i]:=by omega
   by_cases h1:rk a[i]<rk b[i]
   .have e1:decide (rk a[i]<rk b[i])=true:=A7 h1;rw[AP h1] at hg
    repeat' first|simp -dsimp only[go_sem,hw,dJ hlt,dJ hlb,e1,hsa,hsb,ta,tb,na,nb]|apply Br.mk<;>intro h<;>try simp -dsimp only[h]|refine aB.c (by first|exact aEW _ (by omega)) ?_|refine aC ?_|fail
    all_goals first|omega|(refine bN ?_;simp[←hg];done)|(simp[←hg];done)
   .have e1:decide (rk a[i]<rk b[i])=false:=AO h1;rw[AB h1] at hg;by_cases h2:rk a[i]>rk b[i]
    .have e2:decide (rk a[i]>rk b[i])=true:=A7 h2;rw[AP h2] at hg
     repeat' first|simp -dsimp only[go_sem,hw,dJ hlt,dJ hlb,e1,e2,hsa,hsb,ta,tb,na,nb]|apply Br.mk<;>intro h<;>try simp -dsimp only[h]|refine aB.c (by first|exact aEW _ (by omega)) ?_|refine aC ?_|fail
     all_goals first|omega|(refine bN ?_;simp[←hg];done)|(simp[←hg];done)
    .have e2:decide (rk a[i]>rk b[i])=false:=AO h2;rw[AB h2] at hg
     repeat' first|simp -dsimp only[go_sem,hw,dJ hlt,dJ hlb,e1,e2,hsa,hsb,ta,tb,na,nb]|apply Br.mk<;>intro h<;>try simp -dsimp only[h]|refine aB.c (by first|exact aEW _ (by omega)) ?_|refine aC ?_|fail
     all_goals first|omega|(exact nx (i+1,()) hg)
  .have hge:i=a.length:=by
    have:¬i<a.length:=Dq;omega
   subst hge;simp -dsimp only[go_sem,hsa,hsb]
   have hg2:jC a b=0:=by
    rw[←hg,CV];cases b.drop a.length<;>rfl
   simp[hg2]
end
section
variable [Vs.Envs]
attribute [local irreducible] Vs.Fn bK aO bL bM l03 chB rk cd3 chI
def fH (fr to:Int) (c:List Int):List Int:=(c.take to.toNat).drop fr.toNat
def okF (fr to:Int) (c:List Int):Prop:=0<=fr∧fr<to∧to<=c.length∧c.length<=20
theorem lN {fr to:Int}{c:List Int} (h:okF fr to c):(fH fr to c).length=to.toNat-fr.toNat:=by
 obtain⟨h0,F,h2,H⟩:=h;simp[fH];omega
theorem aA2 {fr to:Int}{c:List Int} (h:okF fr to c):(fH fr to c).length<=1048576:=by
 have:=lN h;obtain⟨h0,F,h2,H⟩:=h;omega
theorem cB {fr to:Int}{c:List Int} (h:okF fr to c):0<=fr∧fr<=to∧to<=((E cI c).length:Int):=by
 obtain⟨h0,F,h2,H⟩:=h;rw[aH];omega
theorem bC {fr to:Int}{c:List Int} (h:okF fr to c):0<=fr∧fr<=to∧to<=(c.length:Int):=by
 obtain⟨h0,F,h2,H⟩:=h;omega
theorem fH_E (fr to:Int) (c:List Int):((E cI c).take to.toNat).drop fr.toNat=E cI (fH fr to c):=by simp[fH,E,CG,CJ]
def cmF (fr to:Int) (a b:List Int):Int:=jC (fH fr to a) (fH fr to b)
def bV (fr to:Int) (l:List (List Int)):Bool:=l.all λc=>dC (fH fr to c)
theorem l7 (a b:List Int) (fr to:Int) (H:okF fr to a) (I:okF fr to b):Fz F.dV [.agg (cC a),.agg (cC b),.agg (cFd fr to)] (.v (.int .i64 (cmF fr to a b))):=by
 refine fn0 Cd.i_compareFields_k λX=>?_
 repeat' first|simp -dsimp only[go_sem,fH_E,aH,cC,cFd,Af,Ag,Al,Aq,Ae,Ai,Ac,Ak,Ab,Ah,Am]|apply Br.mk<;>intro h<;>try simp -dsimp only[h]|refine RgK.mk rfl ?_|refine aB.c (by first|exact aA4 _ _ (aA2 H) ((lN H).trans (lN I).symm)) ?_|refine And.intro (by first|rfl|omega|decide|exact cB H|exact cB I|exact⟨rfl,cB H⟩|exact⟨rfl,cB I⟩|exact bC H|exact bC I|exact⟨rfl,bC H⟩|exact⟨rfl,bC I⟩|(refine⟨?_,?_⟩<;>(first|rfl|omega|decide|exact cB H|exact cB I|exact⟨rfl,cB H⟩|exact⟨rfl,cB I⟩|exact bC H|exact bC I|exact⟨rfl,bC H⟩|exact⟨rfl,bC I⟩))|(refine⟨?_,?_,?_⟩<;>(first|rfl|omega|decide|exact cB H|exact cB I|exact⟨rfl,cB H⟩|exact⟨rfl,cB I⟩|exact bC H|exact bC I|exact⟨rfl,bC H⟩|exact⟨rfl,bC I⟩))|(refine⟨?_,?_,?_,?_⟩<;>(first|rfl|omega|decide|exact cB H|exact cB I|exact⟨rfl,cB H⟩|exact⟨rfl,cB I⟩|exact bC H|exact bC I|exact⟨rfl,bC H⟩|exact⟨rfl,bC I⟩))) ?_|fail
 all_goals(simp_all [cmF])
theorem aK6 (a:List Int) (fr to:Int) (H:okF fr to a):Fz F.tL [.agg (cC a),.agg (cFd fr to)] (.v (.bool (dC (fH fr to a)))):=by
 refine fn0 Cd.i_hasField_k λX=>?_
 repeat' first|simp -dsimp only[go_sem,fH_E,aH,cC,cFd,Af,Ag,Al,Aq,Ae,Ai,Ac,Ak,Ab,Ah,Am]|apply Br.mk<;>intro h<;>try simp -dsimp only[h]|refine RgK.mk rfl ?_|refine aB.c (by first|exact aDH _ (aA2 H)) ?_|refine And.intro (by first|rfl|omega|decide|exact cB H|exact⟨rfl,cB H⟩|exact bC H|exact⟨rfl,bC H⟩|(refine⟨?_,?_⟩<;>(first|rfl|omega|decide|exact cB H|exact⟨rfl,cB H⟩|exact bC H|exact⟨rfl,bC H⟩))|(refine⟨?_,?_,?_⟩<;>(first|rfl|omega|decide|exact cB H|exact⟨rfl,cB H⟩|exact bC H|exact⟨rfl,bC H⟩))|(refine⟨?_,?_,?_,?_⟩<;>(first|rfl|omega|decide|exact cB H|exact⟨rfl,cB H⟩|exact bC H|exact⟨rfl,bC H⟩))) ?_|fail
 all_goals(simp_all)
theorem aHk (a:List Int) (fr to:Int) (H:okF fr to a):Fz F.eP [.agg (cC a),.ro (cFd fr to)] (.v (.bool (!dC (fH fr to a)))):=by
 refine fn0 Cd.i_haveField_1_k λX=>?_
 repeat' first|simp -dsimp only[go_sem,cC,cFd,Af,Ag,Al,Aq,Ae,Ai,Ac,Ak,Ab,Ah,Am]|apply Br.mk<;>intro h<;>try simp -dsimp only[h]|refine aB.c (by first|exact aK6 a fr to H) ?_|refine aC ?_|fail
 all_goals(simp_all)
theorem idxHF (l:List (List Int)) (fr to:Int) (I:∀c,c∈l->okF fr to c) (H:l.length<=1048576):Fz F.kG [.sl 1 (E cC l),.fn F.eP [.ro (cFd fr to)]] (.v (.int .i64 (qI (λc=>!dC (fH fr to c)) l))):=
 aEZ Tryz.mixed (k:=1) Cd.ixf_Card_k.o Cd.ixf_Card_k.n Cd.ixf_Card_k.r rfl (λc=>!dC (fH fr to c)) F.eP [.ro (cFd fr to)] rfl (λ_=>rfl) (λ_=>rfl) (λx J=>aHk x fr to (I x J)) H
theorem conHF (l:List (List Int)) (fr to:Int) (I:∀c,c∈l->okF fr to c) (H:l.length<=1048576):Fz F.tV [.sl 1 (E cC l),.fn F.eP [.ro (cFd fr to)]] (.v (.bool (l.any (λc=>!dC (fH fr to c))))):=
 aGl Tryz.mixed (g:=F.kG) Cd.ctf_Card_k.o Cd.ctf_Card_k.n Cd.ctf_Card_k.r rfl (λc=>!dC (fH fr to c)) F.eP [.ro (cFd fr to)] rfl (idxHF l fr to I H)
theorem aEr (fr to:Int) (l:List (List Int)):(!l.any λc=>!dC (fH fr to c))=bV fr to l:=by
 unfold bV
 induction l with
 |nil=>rfl
 |cons x r ih=>simp only[List.any_cons,BK,Bool.not_or,Bool.not_not,ih]
theorem pR (l:List (List Int)) (fr to:Int) (I:∀c,c∈l->okF fr to c) (H:l.length<=1048576):Fz F.kL [.sl 1 (E cC l),.agg (cFd fr to)] (.v (.bool (bV fr to l))):=by
 refine fn0 Cd.i_haveField_k λX=>?_
 repeat' first|simp -dsimp only[go_sem,cFd]|apply Br.mk<;>intro h<;>try simp -dsimp only[h]|refine aB.c (by first|exact conHF l fr to I H) ?_|refine aC ?_|fail
 all_goals(first|(simp_all [aEr];done)|(refine bN ?_;have e:=aEr fr to l;simp_all))
theorem aJt (a d:List Int) (fr to:Int) (H:okF fr to a) (I:okF fr to d):Fz F.fT [.agg (cC a),.ro (cC d),.ro (cFd fr to)] (.v (.bool (cmF fr to a d==0))):=by
 refine fn0 Cd.i_hasEqual_1_k λX=>?_
 repeat' first|simp -dsimp only[go_sem,cC,cFd,Af,Ag,Al,Aq,Ae,Ai,Ac,Ak,Ab,Ah,Am]|apply Br.mk<;>intro h<;>try simp -dsimp only[h]|refine aB.c (by first|exact l7 a d fr to H I) ?_|refine aC ?_|fail
 all_goals(simp_all)
theorem idxHE (l:List (List Int)) (fr to:Int) (d:List Int) (H:okF fr to d) (J:∀c,c∈l->okF fr to c) (I:l.length<=1048576):Fz F.kG [.sl 1 (E cC l),.fn F.fT [.ro (cC d),.ro (cFd fr to)]] (.v (.int .i64 (qI (λc=>cmF fr to c d==0) l))):=
 aEZ Tryz.mixed (k:=1) Cd.ixf_Card_k.o Cd.ixf_Card_k.n Cd.ixf_Card_k.r rfl (λc=>cmF fr to c d==0) F.fT [.ro (cC d),.ro (cFd fr to)] rfl (λ_=>rfl) (λ_=>rfl) (λx L=>aJt x d fr to (J x L) H) I
theorem conHE (l:List (List Int)) (fr to:Int) (d:List Int) (H:okF fr to d) (J:∀c,c∈l->okF fr to c) (I:l.length<=1048576):Fz F.tV [.sl 1 (E cC l),.fn F.fT [.ro (cC d),.ro (cFd fr to)]] (.v (.bool (l.any (λc=>cmF fr to c d==0)))):=
 aGl Tryz.mixed (g:=F.kG) Cd.ctf_Card_k.o Cd.ctf_Card_k.n Cd.ctf_Card_k.r rfl (λc=>cmF fr to c d==0) F.fT [.ro (cC d),.ro (cFd fr to)] rfl (idxHE l fr to d H J I)
theorem aK7 (l:List (List Int)) (d:List Int) (fr to:Int) (H:okF fr to d) (J:∀c,c∈l->okF fr to c) (I:l.length<=1048576):Fz F.tN [.sl 1 (E cC l),.agg (cC d),.agg (cFd fr to)] (.v (.bool (l.any (λc=>cmF fr to c d==0)))):=by
 refine fn0 Cd.i_hasEqual_k λX=>?_
 repeat' first|simp -dsimp only[go_sem,cFd,cC]|apply Br.mk<;>intro h<;>try simp -dsimp only[h]|refine aB.c (by first|exact conHE l fr to d H J I) ?_|refine aC ?_|fail
 all_goals(simp_all)
theorem aKX (a:List Int) (fr to:Int) (H:okF fr to a):Fz F.xO [.ro (cC a),.agg (cFd fr to)] (.tup [.v (.string (aC3 (fH fr to a)).1),.v (.bool (aC3 (fH fr to a)).2)]):=by
 refine fn0 Cd.s_l03Key_k λX=>?_
 repeat' first|simp -dsimp only[go_sem,cFd]|apply Br.mk<;>intro h<;>try simp -dsimp only[h]|refine aB.c (by first|exact part a fr to (bC H).1 (bC H).2.1 (bC H).2.2|exact aMw (fH fr to a) (aA2 H)) ?_|refine aC ?_|fail
 all_goals(simp_all)
def cSt (s:ByteArray):List AV:=[.v (.string s)]
def bS (fr to:Int) (l:List (List Int)):List ByteArray:=l.map λc=>txt (fH fr to c)
def bA (fr to:Int) (l:List (List Int)):Int:=if bF l then(if dZ fr to (bJ l) then(if bV fr to l then 0 else 8) else 2) else 1
def nV (fr to:Int) (l:List (List Int)):AV:=if bA fr to l=0 then .sl 1 (E cSt (bS fr to l)) else .v (.slice none 0 0)
theorem dF {l:List (List Int)}{fr to:Int} (L:bF l=true) (J:dZ fr to (bJ l)=true):∀c,c∈l->okF fr to c:=by
 intro c H;simp only[bF,Av,Az,Bb] at L;simp only[dZ,Av,Bb] at J;obtain⟨F,I⟩:=L.1 c H;simp only[iL,inB,Av,Az,Bb] at F;have h0:l.length≠0:=by intro e;rw[Bt e] at H;cases H
 rw[bJ,AB h0,←I] at J;obtain⟨O,h2,U⟩:=J;obtain⟨Y,Z,_⟩:=F;exact⟨O,h2,U,by omega⟩
theorem aMy {fr to:Int}{l:List (List Int)}{i:Nat} (hi:i<l.length):E cSt ((bS fr to l).take i)++[[.v (.string (txt (fH fr to l[i])))]]=E cSt ((bS fr to l).take (i+1)):=by
 have h2:i<(bS fr to l).length:=by simpa[bS] using hi
 rw[aY h2,bH];simp[E,cSt,bS]
theorem aMA {fr to:Int}{l:List (List Int)}{i:Nat} (hi:i<=l.length):((bS fr to l).take i).length=i:=by simp[bS];omega
theorem aIo (fr to:Int) (l:List (List Int)):(bS fr to l).take l.length=bS fr to l:=Aj (by simp[bS])
attribute [local go_sem] Af Ag Al Aq Ae Ai Ac Ak Ab Ah Am in
theorem jV (l:List (List Int)) (fr to:Int) (hs:∀x,x∈l->x.length<=1048576) (hl:l.length<=1048576):Fz F.jI [.sl 1 (E cC l),.agg (cFd fr to)] (.tup [nV fr to l,.v (.int .i64 (bA fr to l))]):=by
 cases hd:bF l
 .refine fn0 Cd.s_l07Keys_k λX=>?_
  repeat' first|simp -dsimp only[go_sem,cC,cFd,hd]|apply Br.mk<;>intro h<;>try simp -dsimp only[h]|refine aB.c (by first|exact dK l hs hl) ?_|refine aC ?_|fail
  all_goals simp[nV,bA,hd]
 cases hf:dZ fr to (bJ l)
 .refine fn0 Cd.s_l07Keys_k λX=>?_
  repeat' first|simp -dsimp only[go_sem,cC,cFd,hd,hf]|apply Br.mk<;>intro h<;>try simp -dsimp only[h]|refine aB.c (by first|exact dK l hs hl|exact eZ l|exact fA fr to _) ?_|refine aC ?_|fail
  all_goals simp[nV,bA,hd,hf]
 have ho:=dF hd hf;refine fn0 Cd.s_l07Keys_k λX=>?_
 repeat' first|simp -dsimp only[go_sem,cC,cFd,hd,hf]|apply Br.mk<;>intro h<;>try simp -dsimp only[h]|refine aB.c (by first|exact dK l hs hl|exact eZ l|exact fA fr to _) ?_|refine aC ?_|fail
 refine aM.at dM (X:={zz:Nat×(Unit) // zz.1<=l.length∧(l.take zz.1).all (λc=>dC (fH fr to c))=true}) (λzz=>[(6,.loc (.t 6 0) 0 zz.1.1),(7,.v (.int .i64 zz.1.1))]) (λzz=>[(.t 6 0,.arr 1 (E cSt ((bS fr to l).take zz.1.1)) false)]) (λzz=>l.length-zz.1.1) ⟨(0,()),by omega,by simp⟩ ?_ ?_
 .simp[Vs.LeL,Vs.look,aA,aS,aJ,Vs.hset,aK,Vs.E]
 .rintro⟨⟨i,_⟩,hi,hg⟩;dsimp only at hi hg;simp -dsimp only[go_sem,cC,cFd];refine Br.mk (λhc=>?_) λhc=>?_
  .have hlt:i<l.length:=Dq;have hw:=aG hlt hl;have hk:=ho _ (Aa hlt);have hap:=aMy (fr:=fr) (to:=to) hlt;have hkl:=aMA (fr:=fr) (to:=to) (l:=l) (i:=i) (by omega);have hm:(E cC l).getD i []=[.sl 1 (E cI l[i])]:=aN hlt;cases hb:dC (fH fr to l[i])
   .have e1:aC3 (fH fr to l[i])=(⟨#[]⟩,false):=by simp[aC3,hb]
    have e2:bV fr to l=false:=gY (p:=λc=>dC (fH fr to c)) hlt hb
    repeat' first|simp -dsimp only[go_sem,hw,hm,e1,cC,cFd]|apply Br.mk<;>intro h<;>try simp -dsimp only[h]|refine aB.c (by first|exact aKX _ fr to hk) ?_|refine aC ?_|fail
    all_goals first|omega|(refine bN ?_;simp[nV,bA,hd,hf,e2];done)|(simp[nV,bA,hd,hf,e2];done)
   .have e1:aC3 (fH fr to l[i])=(txt (fH fr to l[i]),true):=by simp[aC3,hb]
    repeat' first|simp -dsimp only[go_sem,hw,hm,e1,hap,hkl,aH,cC,cFd]|apply Br.mk<;>intro h<;>try simp -dsimp only[h]|refine aB.c (by first|exact aKX _ fr to hk) ?_|refine aC ?_|fail
    all_goals first|omega|(exact nx (i+1,()) (bD (p:=λc=>dC (fH fr to c)) hlt hg hb))
  .have hge:i=l.length:=by
    have:¬i<l.length:=Dq;omega
   subst hge;simp -dsimp only[go_sem,cC,cFd];have hall:bV fr to l=true:=by simpa[bV] using hg
   have hkl:(E cSt ((bS fr to l).take l.length)).take l.length=E cSt (bS fr to l):=by rw[aIo];exact Aj (by simp[Vs.E,bS])
   have hk2:(E cSt (bS fr to l)).take l.length=E cSt (bS fr to l):=Aj (by simp[Vs.E,bS]);simp[nV,bA,hd,hf,hall,hkl,hk2,aIo]
def aP (fr to:Int) (l:List (List Int)):Nat->List Int
 |0=>[]
 |i+1=>aP fr to l i++(if cmF fr to (l.getD (i+1) []) (l.getD i [])<0 then[((i+1:Nat):Int)] else[])
def stp (fr to:Int) (l:List (List Int)):List Int:=aP fr to l (l.length-1)
def gN (fr to:Int) (l:List (List Int)):Bool:=((stp fr to l).length:Int)==0
theorem aDP (fr to:Int) (l:List (List Int)):∀i,(aP fr to l i).length<=i
 |0=>by simp[aP]
 | i+1=>by
  have:=aDP fr to l i;rw[aP,AQ];split<;>simp<;>omega
theorem aM4 {i n:Nat} (h:i<n-1) (F:n<=1048576):IntKind.i64.wrap (((i+1:Nat):Int)+1)=((i+1+1:Nat):Int):=by rw[aR (by omega) (by omega)];omega
theorem aM3 {i n:Nat} (h:i<n-1) (F:n<=1048576):IntKind.i64.wrap (((i+1:Nat):Int)-1)=(i:Int):=by rw[aR (by omega) (by omega)];omega
attribute [local go_sem] Af Ag Al Aq Ae Ai Ac Ak Ab Ah Am in
theorem steps (l:List (List Int)) (fr to:Int) (ho:∀c,c∈l->okF fr to c) (hl:l.length<=1048576):Fz F.aAV [.sl 1 (E cC l),.agg (cFd fr to)] (.sl 1 (E cI (stp fr to l))):=by
 refine fn0 Cd.i_steps_k λX=>?_;simp -dsimp only[go_sem,cC,cFd];refine⟨⟨by omega,by omega⟩,?_⟩;refine aM.at dM (X:={zz:Nat×(Unit) // zz.1<=l.length-1∧True}) (λzz=>[(5,.loc (.t 5 0) 0 (aP fr to l zz.1.1).length),(6,.v (.int .i64 ((zz.1.1+1:Nat):Int)))]) (λzz=>[(.t 5 0,.arr 1 (E cI (aP fr to l zz.1.1)) false)]) (λzz=>l.length-1-zz.1.1) ⟨(0,()),by omega,trivial⟩ ?_ ?_
 .simp[Vs.LeL,Vs.look,aA,aS,aJ,Vs.hset,aK,Vs.E,aP]
 .rintro⟨⟨i,_⟩,hi,hg⟩;dsimp only at hi hg;simp -dsimp only[go_sem,cC,cFd];refine Br.mk (λhc=>?_) λhc=>?_
  .have hlt:i<l.length-1:=Dq;have hw:=aG hlt (by omega);have hl1:i+1<l.length:=by omega
   have hl0:i<l.length:=by omega
   have hk1:=ho _ (Aa hl1);have hk0:=ho _ (Aa hl0);have hm1:(E cC l).getD (i+1) []=[.sl 1 (E cI l[i+1])]:=aN hl1;have hm0:(E cC l).getD i []=[.sl 1 (E cI l[i])]:=aN hl0;have hw2:=aM4 hlt hl;have hw3:=aM3 hlt hl;have hsl:=aDP fr to l i;have g1:l.getD (i+1) []=l[i+1]:=by simp[List.getD,hl1]
   have g0:l.getD i []=l[i]:=by simp[List.getD,hl0]
   by_cases hz:cmF fr to l[i+1] l[i]<0
   .have e1:decide (cmF fr to l[i+1] l[i]<0)=true:=A7 hz;have hs:aP fr to l (i+1)=aP fr to l i++[((i+1:Nat):Int)]:=by rw[aP,g1,g0,AP hz]
    have hap:E cI (aP fr to l i)++[[.v (.int .i64 ((i+1:Nat):Int))]]=E cI (aP fr to l (i+1)):=by rw[hs,bH];rfl
    have hln:(aP fr to l (i+1)).length=(aP fr to l i).length+1:=by rw[hs];simp
    repeat' first|simp -dsimp only[go_sem,hw2,hw3,hm1,hm0,e1,hap,aH,cC,cFd]|apply Br.mk<;>intro h<;>try simp -dsimp only[h]|refine aB.c (by first|exact l7 _ _ fr to hk1 hk0) ?_|refine aC ?_|fail
    all_goals first|omega|(exact nx (i+1,()) trivial (h2:=by simp[Vs.LeL,Vs.look,aA,aS,aJ,Vs.hset,aK,hln]))
   .have e1:decide (cmF fr to l[i+1] l[i]<0)=false:=AO hz;have hs:aP fr to l (i+1)=aP fr to l i:=by rw[aP,g1,g0,AB hz];simp
    repeat' first|simp -dsimp only[go_sem,hw2,hw3,hm1,hm0,e1,aH,cC,cFd]|apply Br.mk<;>intro h<;>try simp -dsimp only[h]|refine aB.c (by first|exact l7 _ _ fr to hk1 hk0) ?_|refine aC ?_|fail
    all_goals first|omega|(exact nx (i+1,()) trivial (h2:=by simp[Vs.LeL,Vs.look,aA,aS,aJ,Vs.hset,aK,hs]))
  .have hge:i=l.length-1:=by
    have:¬i<l.length-1:=Dq;omega
   subst hge;simp -dsimp only[go_sem,cC,cFd];exact⟨⟨_,_,rfl,rfl⟩,by simp⟩
theorem fZ (l:List (List Int)) (fr to:Int) (I:∀c,c∈l->okF fr to c) (H:l.length<=1048576):Fz F.gF [.sl 1 (E cC l),.agg (cFd fr to)] (.v (.bool (gN fr to l))):=by
 refine fn0 Cd.i_isAscending_k λX=>?_
 repeat' first|simp -dsimp only[go_sem,cFd,aH]|apply Br.mk<;>intro h<;>try simp -dsimp only[h]|refine aB.c (by first|exact steps l fr to I H) ?_|refine aC ?_|fail
 all_goals(simp_all [gN])
end
section
variable [Vs.Envs]
attribute [local irreducible] Vs.Fn
theorem getD_lt {α:Type}{l:List α}{i:Nat} (h:i<l.length) (d:α):l.getD i d=l[i]:=by simp[List.getD,h]
def cTs (t:List Tot):List AV:=[.sl 2 (E cT t)]
structure Off where
 trays:List (List (List Int))
 totals:List (List Tot)
def cO (o:Off):List AV:=[.sl 1 (E cD o.trays),.sl 1 (E cTs o.totals)]
def aZ (l:List (List Int)):Prop:=l.length<=1048576∧∀c,c∈l->c.length<=1048576
def wG (l:List (List (List Int))):Prop:=l.length<=1048576∧∀d,d∈l->aZ d
def aEI (l:List Tot):Prop:=l.length<=1048576∧∀t,t∈l->t.1.size<=1048576
def rE (l:List (List Tot)):Prop:=l.length<=1048576∧∀t,t∈l->aEI t
def dY (o:Off):Prop:=wG o.trays∧rE o.totals
end
end Go.Proofs.YtkgeiaideklmoaaGreat
