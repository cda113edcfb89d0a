/- Cards are sorted: the program's way. -/
import Derived.Test.YtmiiohemehacjaaGreatDoorXwQb
import Derived.Test.YtmiiohemehacjaaGreatDoorXwD
import Derived.Test.YtmiiohemehacjaaGreatDoorXuF
import Derived.Test.YtmiiohemehacjaaGreatDoorVtR
set_option linter.all false
set_option maxHeartbeats 8000000
namespace Go.Proofs.YtmiiohemehacjaaGreatDoor
open Go.Vs
section
variable [Vs.Envs]
attribute [local irreducible] Vs.Fn chOK areCh chTo chAt l03 chB rk cd3
attribute [local go_sem] Ai Ah Al Aq Ad Af Ac Ae Aa Ab Ao
theorem vF {l:List Int} (h:cZ l=true) {i:Nat} (hi:i<l.length):0<=rk l[i]:=by
 simp only[cZ,Aw,Bb] at h;exact h _ (Am hi)
theorem aHf {l:List Int}{i:Nat} (hi:i<l.length):E cU ((l.map chI).take i)++[[.v (.int .u8 (chI l[i]))]]=E cU ((l.map chI).take (i+1)):=by
 have h2:i<(l.map chI).length:=by simpa using hi
 rw[bU h2,aS];simp[E,cU]
theorem aHg {l:List Int}{i:Nat} (hi:i<=l.length):((l.map chI).take i).length=i:=by simp;omega
theorem aKH (m:Int):(chB (rk m).toNat:Int)=chI m:=rfl
theorem yP (l:List Int):lH ((l.map chI).take l.length)=txt l:=by unfold txt;rw[Ag (by simp)]
attribute [local irreducible] chI
theorem textOf (l:List Int) (hl:l.length<=1048576) (hh:cZ l=true):Fz F.xX [.sl 1 (E cI l)] (.v (.string (txt l))):=by
 refine fn0 Cd.i_textOf_k λX=>?_;simp -dsimp only[go_sem];refine⟨⟨by omega,by omega⟩,?_⟩;refine aO.at dM (X:={zz:Nat×(Unit) // zz.1<=l.length∧True}) (λzz=>[(3,.loc (.t 3 0) 0 zz.1.1),(9,.v (.int .i64 zz.1.1))]) (λzz=>[(.t 3 0,.arr 1 (E cU ((l.map chI).take zz.1.1)) false)]) (λzz=>l.length-zz.1.1) ⟨(0,()),by omega,trivial⟩ ?_ ?_
 .simp[Vs.LeL,Vs.look,aB,aP,aJ,Vs.hset,aK,Vs.E]
 .rintro⟨⟨i,_⟩,hi,hg⟩;dsimp only at hi hg;simp -dsimp only[go_sem,pO,yP];refine Br.mk (λhc=>?_) λhc=>?_
  .have hlt:i<l.length:=Dq;have hw:=aI hlt hl;have hr:=vF hh hlt;have hr2:=(aCM l[i]).2;have hap:=aHf hlt;have htl:=aHg (l:=l) (i:=i) (by omega)
   repeat' first|simp -dsimp only[go_sem,hw,dJ hlt,chL,chS,aKH,hap,htl,aH]|apply Br.mk<;>intro h<;>try simp -dsimp only[h]|refine aA.c (by first|exact aCQ _) ?_|refine aC ?_|fail
   all_goals first|omega|(exact nx (i+1,()) trivial)
  .have hge:i=l.length:=by
    have:¬i<l.length:=Dq;omega
   subst hge;simp -dsimp only[go_sem,pO,yP];have ht:(E cU ((l.map chI).take l.length)).take l.length=E cU ((l.map chI).take l.length):=Ag (by simp[Vs.E]);simp[ht,pO,yP]
def aDc (l:List Int):ByteArray×Bool:=if cZ l then(txt l,true) else(⟨#[]⟩,false)
theorem aGR {l:List Int}{i:Nat} (hi:i<l.length) (h:cZ (l.take i)=true) (h2:0<=rk l[i]):cZ (l.take (i+1))=true:=by
 unfold cZ at h⊢;exact bH (p:=λm=>decide (0<=rk m)) hi h (by simpa using h2)
theorem aEd {l:List Int}{i:Nat} (hi:i<l.length) (h2:¬0<=rk l[i]):cZ l=false:=by
 unfold cZ;exact iD (p:=λm=>decide (0<=rk m)) hi (by simpa using h2)
theorem aLI (l:List Int) (hl:l.length<=1048576):Fz F.uL [.sl 1 (E cI l)] (.tup [.v (.string (aDc l).1),.v (.bool (aDc l).2)]):=by
 refine fn0 Cd.s_l03Text_k λX=>?_;simp -dsimp only[go_sem];refine⟨⟨by omega,by omega⟩,?_⟩;refine aO.at dM (X:={zz:Nat×(Unit) // zz.1<=l.length∧cZ (l.take zz.1)=true}) (λzz=>[(4,.loc (.t 4 0) 0 zz.1.1),(5,.v (.int .i64 zz.1.1))]) (λzz=>[(.t 4 0,.arr 1 (E cU ((l.map chI).take zz.1.1)) false)]) (λzz=>l.length-zz.1.1) ⟨(0,()),by omega,by simp[cZ]⟩ ?_ ?_
 .simp[Vs.LeL,Vs.look,aB,aP,aJ,Vs.hset,aK,Vs.E]
 .rintro⟨⟨i,_⟩,hi,hg⟩;dsimp only at hi hg;simp -dsimp only[go_sem,pO,yP];refine Br.mk (λhc=>?_) λhc=>?_
  .have hlt:i<l.length:=Dq;have hw:=aI hlt hl;have hr2:=(aCM l[i]).2;have hap:=aHf hlt;have htl:=aHg (l:=l) (i:=i) (by omega);by_cases hz:0<=rk l[i]
   .have e1:aFI l[i]=(chI l[i],true):=by simp[aFI,hz]
    repeat' first|simp -dsimp only[go_sem,hw,dJ hlt,e1,hap,htl,aH]|apply Br.mk<;>intro h<;>try simp -dsimp only[h]|refine aA.c (by first|exact aHJ _) ?_|refine aC ?_|fail
    all_goals first|omega|(exact nx (i+1,()) (aGR hlt hg hz))
   .have e1:aFI l[i]=(0,false):=by simp[aFI,hz]
    repeat' first|simp -dsimp only[go_sem,hw,dJ hlt,e1]|apply Br.mk<;>intro h<;>try simp -dsimp only[h]|refine aA.c (by first|exact aHJ _) ?_|refine aC ?_|fail
    all_goals first|omega|(refine aU ?_;simp[aDc,aEd hlt hz];done)|(simp[aDc,aEd hlt hz];done)
  .have hge:i=l.length:=by
    have:¬i<l.length:=Dq;omega
   subst hge;simp -dsimp only[go_sem,pO,yP];have hh:cZ l=true:=by simpa using hg
   have ht:(E cU ((l.map chI).take l.length)).take l.length=E cU ((l.map chI).take l.length):=Ag (by simp[Vs.E]);simp[ht,pO,yP,aDc,hh]
def jC:List Int->List Int->Int
 |x::a,y::b=>if rk x<rk y then -1 else if rk x>rk y then 1 else jC a b
 |_,_=>0
theorem aEl {a b:List Int}{i:Nat} (u:i<a.length) (F:i<b.length):jC (a.drop i) (b.drop i)=if rk a[i]<rk b[i] then -1 else if rk a[i]>rk b[i] then 1 else jC (a.drop (i+1)) (b.drop (i+1)):=by
 rw[Bn u,Bn F,jC]
theorem aBd (a b:List Int) (hl:a.length<=1048576) (hab:a.length=b.length):Fz F.iQ [.sl 1 (E cI a),.sl 1 (E cI b)] (.v (.int .i64 (jC a b))):=by
 refine fn0 Cd.i_compareHoles_k λX=>?_;simp -dsimp only[go_sem];refine aO.at dM (X:={zz:Nat×(Unit) // zz.1<=a.length∧jC (a.drop zz.1) (b.drop zz.1)=jC a b}) (λzz=>[(10,.v (.int .i64 zz.1.1))]) (λzz=>[]) (λzz=>a.length-zz.1.1) ⟨(0,()),by omega,by simp⟩ ?_ ?_
 .exact le0
 .rintro⟨⟨i,_⟩,hi,hg⟩;dsimp only at hi hg;simp -dsimp only[go_sem];refine Br.mk (λhc=>?_) λhc=>?_
  .have hlt:i<a.length:=Dq;have hw:=aI hlt hl;have hlb:i<b.length:=by omega
   rw[aEl hlt hlb] at hg;by_cases h1:rk a[i]<rk b[i]
   .have e1:decide (rk a[i]<rk b[i])=true:=AR h1;rw[AY h1] at hg
    repeat' first|simp -dsimp only[go_sem,hw,dJ hlt,dJ hlb,e1]|apply Br.mk<;>intro h<;>try simp -dsimp only[h]|refine aA.c (by first|exact aCQ _) ?_|refine aC ?_|fail
    all_goals first|omega|(refine aU ?_;simp[←hg];done)|(simp[←hg];done)
   .have e1:decide (rk a[i]<rk b[i])=false:=AX h1;rw[AJ h1] at hg;by_cases h2:rk a[i]>rk b[i]
    .have e2:decide (rk a[i]>rk b[i])=true:=AR h2;rw[AY h2] at hg
     repeat' first|simp -dsimp only[go_sem,hw,dJ hlt,dJ hlb,e1,e2]|apply Br.mk<;>intro h<;>try simp -dsimp only[h]|refine aA.c (by first|exact aCQ _) ?_|refine aC ?_|fail
     all_goals first|omega|(refine aU ?_;simp[←hg];done)|(simp[←hg];done)
    .have e2:decide (rk a[i]>rk b[i])=false:=AX h2;rw[AJ h2] at hg
     repeat' first|simp -dsimp only[go_sem,hw,dJ hlt,dJ hlb,e1,e2]|apply Br.mk<;>intro h<;>try simp -dsimp only[h]|refine aA.c (by first|exact aCQ _) ?_|refine aC ?_|fail
     all_goals first|omega|(exact nx (i+1,()) hg)
  .have hge:i=a.length:=by
    have:¬i<a.length:=Dq;omega
   subst hge;simp -dsimp only[go_sem]
   have hg2:jC a b=0:=by
    rw[←hg,Cs];cases b.drop a.length<;>rfl
   simp[hg2]
theorem aCJ (l:List Int):(txt l).size=l.length:=by simp[txt,lH,ByteArray.size]
theorem aEy {l:List Int} (h:cZ l=true) {i:Nat} (hi:i<l.length):((txt l).data.toList.getD i 0).toNat=chB (rk l[i]).toNat:=by
 have h2:=aNd (rk l[i]).toNat (by have:=(aCM l[i]).2;omega);have u:=aKH l[i];simp only[txt,lH,Bc,BQ,Bf hi,Ba,BS,←u,Bw];rw[UInt8.toNat_ofNat',Nat.mod_eq_of_lt (by simpa using h2)]
theorem wD (a b:List Int) (hl:a.length<=1048576) (hab:a.length=b.length) (ha:cZ a=true) (hb:cZ b=true):Fz F.fZ [.v (.string (txt a)),.v (.string (txt b))] (.v (.int .i64 (jC a b))):=by
 have hsa:=aCJ a;have hsb:=aCJ b;refine fn0 Cd.s_l03Compare_k λX=>?_;simp -dsimp only[go_sem];refine aO.at dM (X:={zz:Nat×(Unit) // zz.1<=a.length∧jC (a.drop zz.1) (b.drop zz.1)=jC a b}) (λzz=>[(5,.v (.int .i64 zz.1.1))]) (λzz=>[]) (λzz=>a.length-zz.1.1) ⟨(0,()),by omega,by simp⟩ ?_ ?_
 .exact le0
 .rintro⟨⟨i,_⟩,hi,hg⟩;dsimp only at hi hg;simp -dsimp only[go_sem,hsa,hsb];refine Br.mk (λhc=>?_) λhc=>?_
  .have hlt:i<a.length:=Dq;have hw:=aI hlt hl;have hlb:i<b.length:=by omega
   rw[aEl hlt hlb] at hg;have ra:=vF ha hlt;have rb:=vF hb hlb;have ra2:=(aCM a[i]).2;have rb2:=(aCM b[i]).2;have ta:=aEy ha hlt;have tb:=aEy hb hlb;have na:((rk a[i]).toNat:Int)=rk a[i]:=by omega
   have nb:((rk b[i]).toNat:Int)=rk b[i]:=by omega
   by_cases h1:rk a[i]<rk b[i]
   .have e1:decide (rk a[i]<rk b[i])=true:=AR h1;rw[AY h1] at hg
    repeat' first|simp -dsimp only[go_sem,hw,dJ hlt,dJ hlb,e1,hsa,hsb,ta,tb,na,nb]|apply Br.mk<;>intro h<;>try simp -dsimp only[h]|refine aA.c (by first|exact aEQ _ (by omega)) ?_|refine aC ?_|fail
    all_goals first|omega|(refine aU ?_;simp[←hg];done)|(simp[←hg];done)
   .have e1:decide (rk a[i]<rk b[i])=false:=AX h1;rw[AJ h1] at hg;by_cases h2:rk a[i]>rk b[i]
    .have e2:decide (rk a[i]>rk b[i])=true:=AR h2;rw[AY h2] at hg
     repeat' first|simp -dsimp only[go_sem,hw,dJ hlt,dJ hlb,e1,e2,hsa,hsb,ta,tb,na,nb]|apply Br.mk<;>intro h<;>try simp -dsimp only[h]|refine aA.c (by first|exact aEQ _ (by omega)) ?_|refine aC ?_|fail
     all_goals first|omega|(refine aU ?_;simp[←hg];done)|(simp[←hg];done)
    .have e2:decide (rk a[i]>rk b[i])=false:=AX h2;rw[AJ h2] at hg
     repeat' first|simp -dsimp only[go_sem,hw,dJ hlt,dJ hlb,e1,e2,hsa,hsb,ta,tb,na,nb]|apply Br.mk<;>intro h<;>try simp -dsimp only[h]|refine aA.c (by first|exact aEQ _ (by omega)) ?_|refine aC ?_|fail
     all_goals first|omega|(exact nx (i+1,()) hg)
  .have hge:i=a.length:=by
    have:¬i<a.length:=Dq;omega
   subst hge;simp -dsimp only[go_sem,hsa,hsb]
   have hg2:jC a b=0:=by
    rw[←hg,Cs];cases b.drop a.length<;>rfl
   simp[hg2]
end
section
variable [Vs.Envs]
attribute [local irreducible] Vs.Fn chOK areCh chTo chAt l03 chB rk cd3 chI
def fH (fr to:Int) (c:List Int):List Int:=(c.take to.toNat).drop fr.toNat
def okF (fr to:Int) (c:List Int):Prop:=0<=fr∧fr<to∧to<=c.length∧c.length<=20
theorem lK {fr to:Int}{c:List Int} (h:okF fr to c):(fH fr to c).length=to.toNat-fr.toNat:=by
 obtain⟨u,F,h2,G⟩:=h;simp[fH];omega
theorem aBa {fr to:Int}{c:List Int} (h:okF fr to c):(fH fr to c).length<=1048576:=by
 have:=lK h;obtain⟨u,F,h2,G⟩:=h;omega
theorem cB {fr to:Int}{c:List Int} (h:okF fr to c):0<=fr∧fr<=to∧to<=((E cI c).length:Int):=by
 obtain⟨u,F,h2,G⟩:=h;rw[aH];omega
theorem bF {fr to:Int}{c:List Int} (h:okF fr to c):0<=fr∧fr<=to∧to<=(c.length:Int):=by
 obtain⟨u,F,h2,G⟩:=h;omega
theorem fH_E (fr to:Int) (c:List Int):((E cI c).take to.toNat).drop fr.toNat=E cI (fH fr to c):=by simp[fH,E,Cz,CW]
def cmF (fr to:Int) (a b:List Int):Int:=jC (fH fr to a) (fH fr to b)
def bW (fr to:Int) (l:List (List Int)):Bool:=l.all λc=>cZ (fH fr to c)
theorem lZ (a b:List Int) (fr to:Int) (u:okF fr to a) (G:okF fr to b):Fz F.dR [.agg (cC a),.agg (cC b),.agg (cFd fr to)] (.v (.int .i64 (cmF fr to a b))):=by
 refine fn0 Cd.i_compareFields_k λX=>?_
 repeat' first|simp -dsimp only[go_sem,fH_E,aH,cC,cFd,Ai,Ah,Al,Aq,Ad,Af,Ac,Ae,Aa,Ab,Ao]|apply Br.mk<;>intro h<;>try simp -dsimp only[h]|refine RgK.mk rfl ?_|refine aA.c (by first|exact aBd _ _ (aBa u) ((lK u).trans (lK G).symm)) ?_|refine And.intro (by first|rfl|omega|decide|exact cB u|exact cB G|exact⟨rfl,cB u⟩|exact⟨rfl,cB G⟩|exact bF u|exact bF G|exact⟨rfl,bF u⟩|exact⟨rfl,bF G⟩|(refine⟨?_,?_⟩<;>(first|rfl|omega|decide|exact cB u|exact cB G|exact⟨rfl,cB u⟩|exact⟨rfl,cB G⟩|exact bF u|exact bF G|exact⟨rfl,bF u⟩|exact⟨rfl,bF G⟩))|(refine⟨?_,?_,?_⟩<;>(first|rfl|omega|decide|exact cB u|exact cB G|exact⟨rfl,cB u⟩|exact⟨rfl,cB G⟩|exact bF u|exact bF G|exact⟨rfl,bF u⟩|exact⟨rfl,bF G⟩))|(refine⟨?_,?_,?_,?_⟩<;>(first|rfl|omega|decide|exact cB u|exact cB G|exact⟨rfl,cB u⟩|exact⟨rfl,cB G⟩|exact bF u|exact bF G|exact⟨rfl,bF u⟩|exact⟨rfl,bF G⟩))) ?_|fail
 all_goals(simp_all [cmF])
theorem aKh (a:List Int) (fr to:Int) (u:okF fr to a):Fz F.sD [.agg (cC a),.agg (cFd fr to)] (.v (.bool (cZ (fH fr to a)))):=by
 refine fn0 Cd.i_hasField_k λX=>?_
 repeat' first|simp -dsimp only[go_sem,fH_E,aH,cC,cFd,Ai,Ah,Al,Aq,Ad,Af,Ac,Ae,Aa,Ab,Ao]|apply Br.mk<;>intro h<;>try simp -dsimp only[h]|refine RgK.mk rfl ?_|refine aA.c (by first|exact aDM _ (aBa u)) ?_|refine And.intro (by first|rfl|omega|decide|exact cB u|exact⟨rfl,cB u⟩|exact bF u|exact⟨rfl,bF u⟩|(refine⟨?_,?_⟩<;>(first|rfl|omega|decide|exact cB u|exact⟨rfl,cB u⟩|exact bF u|exact⟨rfl,bF u⟩))|(refine⟨?_,?_,?_⟩<;>(first|rfl|omega|decide|exact cB u|exact⟨rfl,cB u⟩|exact bF u|exact⟨rfl,bF u⟩))|(refine⟨?_,?_,?_,?_⟩<;>(first|rfl|omega|decide|exact cB u|exact⟨rfl,cB u⟩|exact bF u|exact⟨rfl,bF u⟩))) ?_|fail
 all_goals(simp_all)
theorem aGQ (a:List Int) (fr to:Int) (u:okF fr to a):Fz F.eH [.agg (cC a),.ro (cFd fr to)] (.v (.bool (!cZ (fH fr to a)))):=by
 refine fn0 Cd.i_haveField_1_k λX=>?_
 repeat' first|simp -dsimp only[go_sem,cC,cFd,Ai,Ah,Al,Aq,Ad,Af,Ac,Ae,Aa,Ab,Ao]|apply Br.mk<;>intro h<;>try simp -dsimp only[h]|refine aA.c (by first|exact aKh a fr to u) ?_|refine aC ?_|fail
 all_goals(simp_all)
theorem idxHF (l:List (List Int)) (fr to:Int) (ho:∀c,c∈l->okF fr to c) (u:l.length<=1048576):Fz F.lT [.sl 1 (E cC l),.fn F.eH [.ro (cFd fr to)]] (.v (.int .i64 (sP (λc=>!cZ (fH fr to c)) l))):=
 aGM Tryz.mixed (k:=1) Cd.ixf_Card_k.o Cd.ixf_Card_k.n Cd.ixf_Card_k.r rfl (λc=>!cZ (fH fr to c)) F.eH [.ro (cFd fr to)] rfl (λ_=>rfl) (λ_=>rfl) (λx G=>aGQ x fr to (ho x G)) u
theorem conHF (l:List (List Int)) (fr to:Int) (ho:∀c,c∈l->okF fr to c) (u:l.length<=1048576):Fz F.sN [.sl 1 (E cC l),.fn F.eH [.ro (cFd fr to)]] (.v (.bool (l.any (λc=>!cZ (fH fr to c))))):=
 aF5 Tryz.mixed (g:=F.lT) Cd.ctf_Card_k.o Cd.ctf_Card_k.n Cd.ctf_Card_k.r rfl (λc=>!cZ (fH fr to c)) F.eH [.ro (cFd fr to)] rfl (idxHF l fr to ho u)
theorem aEu (fr to:Int) (l:List (List Int)):(!l.any λc=>!cZ (fH fr to c))=bW fr to l:=by
 unfold bW
 induction l with
 |nil=>rfl
 |cons x r ih=>simp only[List.any_cons,BO,Bool.not_or,Bool.not_not,ih]
theorem qX (l:List (List Int)) (fr to:Int) (ho:∀c,c∈l->okF fr to c) (u:l.length<=1048576):Fz F.kL [.sl 1 (E cC l),.agg (cFd fr to)] (.v (.bool (bW fr to l))):=by
 refine fn0 Cd.i_haveField_k λX=>?_
 repeat' first|simp -dsimp only[go_sem,cFd]|apply Br.mk<;>intro h<;>try simp -dsimp only[h]|refine aA.c (by first|exact conHF l fr to ho u) ?_|refine aC ?_|fail
 all_goals(first|(simp_all [aEu];done)|(refine aU ?_;have e:=aEu fr to l;simp_all))
theorem aIJ (a d:List Int) (fr to:Int) (u:okF fr to a) (G:okF fr to d):Fz F.gF [.agg (cC a),.ro (cC d),.ro (cFd fr to)] (.v (.bool (cmF fr to a d==0))):=by
 refine fn0 Cd.i_hasEqual_1_k λX=>?_
 repeat' first|simp -dsimp only[go_sem,cC,cFd,Ai,Ah,Al,Aq,Ad,Af,Ac,Ae,Aa,Ab,Ao]|apply Br.mk<;>intro h<;>try simp -dsimp only[h]|refine aA.c (by first|exact lZ a d fr to u G) ?_|refine aC ?_|fail
 all_goals(simp_all)
theorem idxHE (l:List (List Int)) (fr to:Int) (d:List Int) (u:okF fr to d) (ho:∀c,c∈l->okF fr to c) (G:l.length<=1048576):Fz F.lT [.sl 1 (E cC l),.fn F.gF [.ro (cC d),.ro (cFd fr to)]] (.v (.int .i64 (sP (λc=>cmF fr to c d==0) l))):=
 aGM Tryz.mixed (k:=1) Cd.ixf_Card_k.o Cd.ixf_Card_k.n Cd.ixf_Card_k.r rfl (λc=>cmF fr to c d==0) F.gF [.ro (cC d),.ro (cFd fr to)] rfl (λ_=>rfl) (λ_=>rfl) (λx H=>aIJ x d fr to (ho x H) u) G
theorem conHE (l:List (List Int)) (fr to:Int) (d:List Int) (u:okF fr to d) (ho:∀c,c∈l->okF fr to c) (G:l.length<=1048576):Fz F.sN [.sl 1 (E cC l),.fn F.gF [.ro (cC d),.ro (cFd fr to)]] (.v (.bool (l.any (λc=>cmF fr to c d==0)))):=
 aF5 Tryz.mixed (g:=F.lT) Cd.ctf_Card_k.o Cd.ctf_Card_k.n Cd.ctf_Card_k.r rfl (λc=>cmF fr to c d==0) F.gF [.ro (cC d),.ro (cFd fr to)] rfl (idxHE l fr to d u ho G)
theorem aKi (l:List (List Int)) (d:List Int) (fr to:Int) (u:okF fr to d) (ho:∀c,c∈l->okF fr to c) (G:l.length<=1048576):Fz F.sF [.sl 1 (E cC l),.agg (cC d),.agg (cFd fr to)] (.v (.bool (l.any (λc=>cmF fr to c d==0)))):=by
 refine fn0 Cd.i_hasEqual_k λX=>?_
 repeat' first|simp -dsimp only[go_sem,cFd,cC]|apply Br.mk<;>intro h<;>try simp -dsimp only[h]|refine aA.c (by first|exact conHE l fr to d u ho G) ?_|refine aC ?_|fail
 all_goals(simp_all)
theorem aJ6 (a:List Int) (fr to:Int) (u:okF fr to a):Fz F.xH [.ro (cC a),.agg (cFd fr to)] (.tup [.v (.string (aDc (fH fr to a)).1),.v (.bool (aDc (fH fr to a)).2)]):=by
 refine fn0 Cd.s_l03Key_k λX=>?_
 repeat' first|simp -dsimp only[go_sem,cFd]|apply Br.mk<;>intro h<;>try simp -dsimp only[h]|refine aA.c (by first|exact part a fr to (bF u).1 (bF u).2.1 (bF u).2.2|exact aLI (fH fr to a) (aBa u)) ?_|refine aC ?_|fail
 all_goals(simp_all)
def cSt (s:ByteArray):List AV:=[.v (.string s)]
def bT (fr to:Int) (l:List (List Int)):List ByteArray:=l.map λc=>txt (fH fr to c)
def bD (fr to:Int) (l:List (List Int)):Int:=if bB l then(if eF fr to (bL l) then(if bW fr to l then 0 else 8) else 2) else 1
def nP (fr to:Int) (l:List (List Int)):AV:=if bD fr to l=0 then .sl 1 (E cSt (bT fr to l)) else .v (.slice none 0 0)
theorem fE {l:List (List Int)}{fr to:Int} (I:bB l=true) (H:eF fr to (bL l)=true):∀c,c∈l->okF fr to c:=by
 intro c F;simp only[bB,Au,Aw,Bb] at I;simp only[eF,Au,Bb] at H;obtain⟨u,G⟩:=I.1 c F;simp only[gL,inB,Au,Aw,Bb] at u;have J:l.length≠0:=by intro e;rw[Bl e] at F;cases F
 rw[bL,AJ J,←G] at H;obtain⟨L,h2,M⟩:=H;obtain⟨O,U,_⟩:=u;exact⟨L,h2,M,by omega⟩
theorem aLK {fr to:Int}{l:List (List Int)}{i:Nat} (hi:i<l.length):E cSt ((bT fr to l).take i)++[[.v (.string (txt (fH fr to l[i])))]]=E cSt ((bT fr to l).take (i+1)):=by
 have h2:i<(bT fr to l).length:=by simpa[bT] using hi
 rw[bU h2,aS];simp[E,cSt,bT]
theorem aLM {fr to:Int}{l:List (List Int)}{i:Nat} (hi:i<=l.length):((bT fr to l).take i).length=i:=by simp[bT];omega
theorem aHM (fr to:Int) (l:List (List Int)):(bT fr to l).take l.length=bT fr to l:=Ag (by simp[bT])
attribute [local go_sem] Ai Ah Al Aq Ad Af Ac Ae Aa Ab Ao in
theorem j4 (l:List (List Int)) (fr to:Int) (hs:∀x,x∈l->x.length<=1048576) (hl:l.length<=1048576):Fz F.jN [.sl 1 (E cC l),.agg (cFd fr to)] (.tup [nP fr to l,.v (.int .i64 (bD fr to l))]):=by
 cases hd:bB l
 .refine fn0 Cd.s_l07Keys_k λX=>?_
  repeat' first|simp -dsimp only[go_sem,cC,cFd,hd]|apply Br.mk<;>intro h<;>try simp -dsimp only[h]|refine aA.c (by first|exact bJ l hs hl) ?_|refine aC ?_|fail
  all_goals simp[nP,bD,hd]
 cases hf:eF fr to (bL l)
 .refine fn0 Cd.s_l07Keys_k λX=>?_
  repeat' first|simp -dsimp only[go_sem,cC,cFd,hd,hf]|apply Br.mk<;>intro h<;>try simp -dsimp only[h]|refine aA.c (by first|exact bJ l hs hl|exact dG l|exact dX fr to _) ?_|refine aC ?_|fail
  all_goals simp[nP,bD,hd,hf]
 have ho:=fE hd hf;refine fn0 Cd.s_l07Keys_k λX=>?_
 repeat' first|simp -dsimp only[go_sem,cC,cFd,hd,hf]|apply Br.mk<;>intro h<;>try simp -dsimp only[h]|refine aA.c (by first|exact bJ l hs hl|exact dG l|exact dX fr to _) ?_|refine aC ?_|fail
 refine aO.at dM (X:={zz:Nat×(Unit) // zz.1<=l.length∧(l.take zz.1).all (λc=>cZ (fH fr to c))=true}) (λzz=>[(6,.loc (.t 6 0) 0 zz.1.1),(7,.v (.int .i64 zz.1.1))]) (λzz=>[(.t 6 0,.arr 1 (E cSt ((bT fr to l).take zz.1.1)) false)]) (λzz=>l.length-zz.1.1) ⟨(0,()),by omega,by simp⟩ ?_ ?_
 .simp[Vs.LeL,Vs.look,aB,aP,aJ,Vs.hset,aK,Vs.E]
 .rintro⟨⟨i,_⟩,hi,hg⟩;dsimp only at hi hg;simp -dsimp only[go_sem,cC,cFd];refine Br.mk (λhc=>?_) λhc=>?_
  .have hlt:i<l.length:=Dq;have hw:=aI hlt hl;have hk:=ho _ (Am hlt);have hap:=aLK (fr:=fr) (to:=to) hlt;have hkl:=aLM (fr:=fr) (to:=to) (l:=l) (i:=i) (by omega);have hm:(E cC l).getD i []=[.sl 1 (E cI l[i])]:=aR hlt;cases hb:cZ (fH fr to l[i])
   .have e1:aDc (fH fr to l[i])=(⟨#[]⟩,false):=by simp[aDc,hb]
    have e2:bW fr to l=false:=iD (p:=λc=>cZ (fH fr to c)) hlt hb
    repeat' first|simp -dsimp only[go_sem,hw,hm,e1,cC,cFd]|apply Br.mk<;>intro h<;>try simp -dsimp only[h]|refine aA.c (by first|exact aJ6 _ fr to hk) ?_|refine aC ?_|fail
    all_goals first|omega|(refine aU ?_;simp[nP,bD,hd,hf,e2];done)|(simp[nP,bD,hd,hf,e2];done)
   .have e1:aDc (fH fr to l[i])=(txt (fH fr to l[i]),true):=by simp[aDc,hb]
    repeat' first|simp -dsimp only[go_sem,hw,hm,e1,hap,hkl,aH,cC,cFd]|apply Br.mk<;>intro h<;>try simp -dsimp only[h]|refine aA.c (by first|exact aJ6 _ fr to hk) ?_|refine aC ?_|fail
    all_goals first|omega|(exact nx (i+1,()) (bH (p:=λc=>cZ (fH fr to c)) hlt hg hb))
  .have hge:i=l.length:=by
    have:¬i<l.length:=Dq;omega
   subst hge;simp -dsimp only[go_sem,cC,cFd];have hall:bW fr to l=true:=by simpa[bW] using hg
   have hkl:(E cSt ((bT fr to l).take l.length)).take l.length=E cSt (bT fr to l):=by rw[aHM];exact Ag (by simp[Vs.E,bT])
   have hk2:(E cSt (bT fr to l)).take l.length=E cSt (bT fr to l):=Ag (by simp[Vs.E,bT]);simp[nP,bD,hd,hf,hall,hkl,hk2,aHM]
def stpTo (fr to:Int) (l:List (List Int)):Nat->List Int
 |0=>[]
 |i+1=>stpTo fr to l i++(if cmF fr to (l.getD (i+1) []) (l.getD i [])<0 then[((i+1:Nat):Int)] else[])
def stp (fr to:Int) (l:List (List Int)):List Int:=stpTo fr to l (l.length-1)
def iL (fr to:Int) (l:List (List Int)):Bool:=((stp fr to l).length:Int)==0
theorem aDT (fr to:Int) (l:List (List Int)):∀i,(stpTo fr to l i).length<=i
 |0=>by simp[stpTo]
 | i+1=>by
  have:=aDT fr to l i;rw[stpTo,AC];split<;>simp<;>omega
theorem aMb {i n:Nat} (h:i<n-1) (u:n<=1048576):IntKind.i64.wrap (((i+1:Nat):Int)+1)=((i+1+1:Nat):Int):=by rw[aM (by omega) (by omega)];omega
theorem aMa {i n:Nat} (h:i<n-1) (u:n<=1048576):IntKind.i64.wrap (((i+1:Nat):Int)-1)=(i:Int):=by rw[aM (by omega) (by omega)];omega
attribute [local go_sem] Ai Ah Al Aq Ad Af Ac Ae Aa Ab Ao in
theorem steps (l:List (List Int)) (fr to:Int) (ho:∀c,c∈l->okF fr to c) (hl:l.length<=1048576):Fz F.aA4 [.sl 1 (E cC l),.agg (cFd fr to)] (.sl 1 (E cI (stp fr to l))):=by
 refine fn0 Cd.i_steps_k λX=>?_;simp -dsimp only[go_sem,cC,cFd];refine⟨⟨by omega,by omega⟩,?_⟩;refine aO.at dM (X:={zz:Nat×(Unit) // zz.1<=l.length-1∧True}) (λzz=>[(5,.loc (.t 5 0) 0 (stpTo fr to l zz.1.1).length),(6,.v (.int .i64 ((zz.1.1+1:Nat):Int)))]) (λzz=>[(.t 5 0,.arr 1 (E cI (stpTo fr to l zz.1.1)) false)]) (λzz=>l.length-1-zz.1.1) ⟨(0,()),by omega,trivial⟩ ?_ ?_
 .simp[Vs.LeL,Vs.look,aB,aP,aJ,Vs.hset,aK,Vs.E,stpTo]
 .rintro⟨⟨i,_⟩,hi,hg⟩;dsimp only at hi hg;simp -dsimp only[go_sem,cC,cFd];refine Br.mk (λhc=>?_) λhc=>?_
  .have hlt:i<l.length-1:=Dq;have hw:=aI hlt (by omega);have hl1:i+1<l.length:=by omega
   have hl0:i<l.length:=by omega
   have hk1:=ho _ (Am hl1);have hk0:=ho _ (Am hl0);have hm1:(E cC l).getD (i+1) []=[.sl 1 (E cI l[i+1])]:=aR hl1;have hm0:(E cC l).getD i []=[.sl 1 (E cI l[i])]:=aR hl0;have hw2:=aMb hlt hl;have hw3:=aMa hlt hl;have hsl:=aDT fr to l i;have g1:l.getD (i+1) []=l[i+1]:=by simp[List.getD,hl1]
   have g0:l.getD i []=l[i]:=by simp[List.getD,hl0]
   by_cases hz:cmF fr to l[i+1] l[i]<0
   .have e1:decide (cmF fr to l[i+1] l[i]<0)=true:=AR hz;have hs:stpTo fr to l (i+1)=stpTo fr to l i++[((i+1:Nat):Int)]:=by rw[stpTo,g1,g0,AY hz]
    have hap:E cI (stpTo fr to l i)++[[.v (.int .i64 ((i+1:Nat):Int))]]=E cI (stpTo fr to l (i+1)):=by rw[hs,aS];rfl
    have hln:(stpTo fr to l (i+1)).length=(stpTo fr to l i).length+1:=by rw[hs];simp
    repeat' first|simp -dsimp only[go_sem,hw2,hw3,hm1,hm0,e1,hap,aH,cC,cFd]|apply Br.mk<;>intro h<;>try simp -dsimp only[h]|refine aA.c (by first|exact lZ _ _ fr to hk1 hk0) ?_|refine aC ?_|fail
    all_goals first|omega|(exact nx (i+1,()) trivial (h2:=by simp[Vs.LeL,Vs.look,aB,aP,aJ,Vs.hset,aK,hln]))
   .have e1:decide (cmF fr to l[i+1] l[i]<0)=false:=AX hz;have hs:stpTo fr to l (i+1)=stpTo fr to l i:=by rw[stpTo,g1,g0,AJ hz];simp
    repeat' first|simp -dsimp only[go_sem,hw2,hw3,hm1,hm0,e1,aH,cC,cFd]|apply Br.mk<;>intro h<;>try simp -dsimp only[h]|refine aA.c (by first|exact lZ _ _ fr to hk1 hk0) ?_|refine aC ?_|fail
    all_goals first|omega|(exact nx (i+1,()) trivial (h2:=by simp[Vs.LeL,Vs.look,aB,aP,aJ,Vs.hset,aK,hs]))
  .have hge:i=l.length-1:=by
    have:¬i<l.length-1:=Dq;omega
   subst hge;simp -dsimp only[go_sem,cC,cFd];exact⟨⟨_,_,rfl,rfl⟩,by simp⟩
theorem aZ (l:List (List Int)) (fr to:Int) (ho:∀c,c∈l->okF fr to c) (u:l.length<=1048576):Fz F.gJ [.sl 1 (E cC l),.agg (cFd fr to)] (.v (.bool (iL fr to l))):=by
 refine fn0 Cd.i_isAscending_k λX=>?_
 repeat' first|simp -dsimp only[go_sem,cFd,aH]|apply Br.mk<;>intro h<;>try simp -dsimp only[h]|refine aA.c (by first|exact steps l fr to ho u) ?_|refine aC ?_|fail
 all_goals(simp_all [iL])
end
section
variable [Vs.Envs]
attribute [local irreducible] Vs.Fn chOK areCh chTo chAt l03 chB rk cd3 chI stp stpTo
attribute [local irreducible] bD
attribute [local go_sem] cC Ai Ah Al Aq Ad Af Ac Ae Aa Ab Ao
def aGu (l:List (List (List Int))):Prop:=l.length<=1048576∧∀d,d∈l->bE d
def jY (fr to:Int) (ls:List (List (List Int))):Int:=
 if ls.all bB then(if ls.all (λd=>eF fr to (bL d)) then(if ls.all (bW fr to) then 0 else 8) else 2) else 1
def aAb (fr to:Int) (ts:List ByteArray) (ls:List (List (List Int))):Int:=
 if ls.all bB then(if ls.all (λd=>eF fr to (bL d)) then(if ts.all (λt=>(t.size:Int)==W (to-fr)) then(if ts.all areCh then(if ls.all (bW fr to) then 0 else 8) else 7) else 2) else 2) else 1
theorem vM (fr to:Int) (ls:List (List (List Int))) (hk:aGu ls):Fz F.eP [.agg (cFd fr to),.v (.bool true),.v (.slice none 0 0),.sl 1 (E cD ls)] (.v (.int .i64 (jY fr to ls))):=by
 refine fn0 Cd.i_collateCode_k λX=>?_;simp -dsimp only[go_sem,cFd,cD];refine aO.at dM (X:={zz:Nat×(Unit) // zz.1<=ls.length∧(ls.take zz.1).all (bB)=true}) (λzz=>[(21,.v (.int .i64 zz.1.1))]) (λzz=>[]) (λzz=>ls.length-zz.1.1) ⟨(0,()),by omega,by simp⟩ ?_ ?_
 .exact le0
 .rintro⟨⟨i,_⟩,hi,hg⟩;dsimp only at hi hg;simp -dsimp only[go_sem,cFd,cD];refine Br.mk (λhc=>?_) λhc=>?_
  .have hlt:i<ls.length:=Dq;have hw:=aI hlt hk.1;have hsm:=hk.2 _ (Am hlt);have hm:(E cD ls).getD i []=[.sl 1 (E cC ls[i])]:=aR hlt;cases hb:bB ls[i]
   .have hall:ls.all (bB)=false:=iD (p:=bB) hlt hb
    repeat' first|simp -dsimp only[go_sem,hw,hm,hb,cFd,cD]|apply Br.mk<;>intro h<;>try simp -dsimp only[h]|refine aA.c (by first|exact bY _ hsm.2 hsm.1) ?_|refine aC ?_|fail
    all_goals first|omega|(refine aU ?_;simp[jY,hall];done)|(simp[jY,hall];done)
   .simp -dsimp only[go_sem,hw,hm,hb,cFd,cD]
    repeat' first|simp -dsimp only[go_sem,hw,hm,hb,cFd,cD]|apply Br.mk<;>intro h<;>try simp -dsimp only[h]|refine aA.c (by first|exact bY _ hsm.2 hsm.1) ?_|refine aC ?_|fail
    all_goals first|omega|(exact nx (i+1,()) (bH (p:=bB) hlt hg hb))
  .have hge:i=ls.length:=by
    have:¬i<ls.length:=Dq;omega
   subst hge;simp -dsimp only[go_sem,cFd,cD];have a1:ls.all (bB)=true:=by simpa using hg
   clear hg hi hc;refine⟨?_,by simp⟩;refine aO.at dM (X:={zz:Nat×(Unit) // zz.1<=ls.length∧(ls.take zz.1).all ((λd=>eF fr to (bL d)))=true}) (λzz=>[(33,.v (.int .i64 zz.1.1))]) (λzz=>[]) (λzz=>ls.length-zz.1.1) ⟨(0,()),by omega,by simp⟩ ?_ ?_
   .exact le0
   .rintro⟨⟨i,_⟩,hi,hg⟩;dsimp only at hi hg;simp -dsimp only[go_sem,cFd,cD];refine Br.mk (λhc=>?_) λhc=>?_
    .have hlt:i<ls.length:=Dq;have hw:=aI hlt hk.1;have hsm:=hk.2 _ (Am hlt);have hm:(E cD ls).getD i []=[.sl 1 (E cC ls[i])]:=aR hlt;cases hb:(λd=>eF fr to (bL d)) ls[i]
     .have hall:ls.all ((λd=>eF fr to (bL d)))=false:=iD (p:=(λd=>eF fr to (bL d))) hlt hb
      repeat' first|simp -dsimp only[go_sem,hw,hm,hb,cFd,cD]|apply Br.mk<;>intro h<;>try simp -dsimp only[h]|refine aA.c (by first|exact eZ _|exact wF fr to _) ?_|refine aC ?_|fail
      all_goals first|omega|(refine aU ?_;simp[jY,hall,a1];done)|(simp[jY,hall,a1];done)
     .simp -dsimp only[go_sem,hw,hm,hb,cFd,cD]
      repeat' first|simp -dsimp only[go_sem,hw,hm,hb,cFd,cD]|apply Br.mk<;>intro h<;>try simp -dsimp only[h]|refine aA.c (by first|exact eZ _|exact wF fr to _) ?_|refine aC ?_|fail
      all_goals first|omega|(exact nx (i+1,()) (bH (p:=(λd=>eF fr to (bL d))) hlt hg hb))
    .have hge:i=ls.length:=by
      have:¬i<ls.length:=Dq;omega
     subst hge;simp -dsimp only[go_sem,cFd,cD];have a2:ls.all ((λd=>eF fr to (bL d)))=true:=by simpa using hg
     clear hg hi hc;refine⟨?_,by simp⟩;refine aO.at dM (X:={zz:Nat×(Unit) // zz.1<=0∧True}) (λzz=>[(45,.v (.int .i64 zz.1.1))]) (λzz=>[]) (λzz=>0-zz.1.1) ⟨(0,()),by omega,trivial⟩ ?_ ?_
     .exact le0
     .rintro⟨⟨i,_⟩,hi,hg⟩;dsimp only at hi hg;simp -dsimp only[go_sem,cFd,cD];refine Br.mk (λhc=>?_) λhc=>?_
      .have hlt:i<0:=by have:=Cu hc;omega
       have hw:=aI hlt (by omega);exact absurd hlt (by omega)
      .have hge:i=0:=by
        have:¬i<0:=by have:=CB hc;omega
        omega
       subst hge;simp -dsimp only[go_sem,cFd,cD];clear hg hi hc;refine⟨?_,by simp⟩;refine aO.at dM (X:={zz:Nat×(Unit) // zz.1<=0∧True}) (λzz=>[(60,.v (.int .i64 zz.1.1))]) (λzz=>[]) (λzz=>0-zz.1.1) ⟨(0,()),by omega,trivial⟩ ?_ ?_
       .exact le0
       .rintro⟨⟨i,_⟩,hi,hg⟩;dsimp only at hi hg;simp -dsimp only[go_sem,cFd,cD];refine Br.mk (λhc=>?_) λhc=>?_
        .have hlt:i<0:=by have:=Cu hc;omega
         have hw:=aI hlt (by omega);exact absurd hlt (by omega)
        .have hge:i=0:=by
          have:¬i<0:=by have:=CB hc;omega
          omega
         subst hge;simp -dsimp only[go_sem,cFd,cD];clear hg hi hc;refine⟨?_,by simp⟩;refine aO.at dM (X:={zz:Nat×(Unit) // zz.1<=ls.length∧(ls.take zz.1).all ((bW fr to))=true}) (λzz=>[(70,.v (.int .i64 zz.1.1))]) (λzz=>[]) (λzz=>ls.length-zz.1.1) ⟨(0,()),by omega,by simp⟩ ?_ ?_
         .exact le0
         .rintro⟨⟨i,_⟩,hi,hg⟩;dsimp only at hi hg;simp -dsimp only[go_sem,cFd,cD];refine Br.mk (λhc=>?_) λhc=>?_
          .have hlt:i<ls.length:=Dq;have hw:=aI hlt hk.1;have hsm:=hk.2 _ (Am hlt);have hm:(E cD ls).getD i []=[.sl 1 (E cC ls[i])]:=aR hlt;have hdk:bB ls[i]=true:=(Aw.1 a1) _ (Am hlt);have hfk:eF fr to (bL ls[i])=true:=(Aw.1 a2) _ (Am hlt);have hof:=fE hdk hfk;cases hb:(bW fr to) ls[i]
           .have hall:ls.all ((bW fr to))=false:=iD (p:=(bW fr to)) hlt hb
            repeat' first|simp -dsimp only[go_sem,hw,hm,hb,cFd,cD]|apply Br.mk<;>intro h<;>try simp -dsimp only[h]|refine aA.c (by first|exact qX _ fr to hof hsm.1) ?_|refine aC ?_|fail
            all_goals first|omega|(refine aU ?_;simp[jY,hall,a1,a2];done)|(simp[jY,hall,a1,a2];done)
           .simp -dsimp only[go_sem,hw,hm,hb,cFd,cD]
            repeat' first|simp -dsimp only[go_sem,hw,hm,hb,cFd,cD]|apply Br.mk<;>intro h<;>try simp -dsimp only[h]|refine aA.c (by first|exact qX _ fr to hof hsm.1) ?_|refine aC ?_|fail
            all_goals first|omega|(exact nx (i+1,()) (bH (p:=(bW fr to)) hlt hg hb))
          .have hge:i=ls.length:=by
            have:¬i<ls.length:=Dq;omega
           subst hge;simp -dsimp only[go_sem,cFd,cD];have a5:ls.all (bW fr to)=true:=by simpa using hg
           simp[jY,a1,a2,a5]
theorem aKF (fr to:Int) (ls:List (List (List Int))) (hk:aGu ls) (ts:List ByteArray) (hts:ts.length<=1048576) (htz:∀t,t∈ts->t.size<=1048576):Fz F.eP [.agg (cFd fr to),.v (.bool true),.sl 1 (E cSt ts),.sl 1 (E cD ls)] (.v (.int .i64 (aAb fr to ts ls))):=by
 refine fn0 Cd.i_collateCode_k λX=>?_;simp -dsimp only[go_sem,cFd,cD];refine aO.at dM (X:={zz:Nat×(Unit) // zz.1<=ls.length∧(ls.take zz.1).all (bB)=true}) (λzz=>[(21,.v (.int .i64 zz.1.1))]) (λzz=>[]) (λzz=>ls.length-zz.1.1) ⟨(0,()),by omega,by simp⟩ ?_ ?_
 .exact le0
 .rintro⟨⟨i,_⟩,hi,hg⟩;dsimp only at hi hg;simp -dsimp only[go_sem,cFd,cD];refine Br.mk (λhc=>?_) λhc=>?_
  .have hlt:i<ls.length:=Dq;have hw:=aI hlt hk.1;have hsm:=hk.2 _ (Am hlt);have hm:(E cD ls).getD i []=[.sl 1 (E cC ls[i])]:=aR hlt;cases hb:bB ls[i]
   .have hall:ls.all (bB)=false:=iD (p:=bB) hlt hb
    repeat' first|simp -dsimp only[go_sem,hw,hm,hb,cFd,cD]|apply Br.mk<;>intro h<;>try simp -dsimp only[h]|refine aA.c (by first|exact bY _ hsm.2 hsm.1) ?_|refine aC ?_|fail
    all_goals first|omega|(refine aU ?_;simp[aAb,hall];done)|(simp[aAb,hall];done)
   .simp -dsimp only[go_sem,hw,hm,hb,cFd,cD]
    repeat' first|simp -dsimp only[go_sem,hw,hm,hb,cFd,cD]|apply Br.mk<;>intro h<;>try simp -dsimp only[h]|refine aA.c (by first|exact bY _ hsm.2 hsm.1) ?_|refine aC ?_|fail
    all_goals first|omega|(exact nx (i+1,()) (bH (p:=bB) hlt hg hb))
  .have hge:i=ls.length:=by
    have:¬i<ls.length:=Dq;omega
   subst hge;simp -dsimp only[go_sem,cFd,cD];have a1:ls.all (bB)=true:=by simpa using hg
   clear hg hi hc;refine⟨?_,by simp⟩;refine aO.at dM (X:={zz:Nat×(Unit) // zz.1<=ls.length∧(ls.take zz.1).all ((λd=>eF fr to (bL d)))=true}) (λzz=>[(33,.v (.int .i64 zz.1.1))]) (λzz=>[]) (λzz=>ls.length-zz.1.1) ⟨(0,()),by omega,by simp⟩ ?_ ?_
   .exact le0
   .rintro⟨⟨i,_⟩,hi,hg⟩;dsimp only at hi hg;simp -dsimp only[go_sem,cFd,cD];refine Br.mk (λhc=>?_) λhc=>?_
    .have hlt:i<ls.length:=Dq;have hw:=aI hlt hk.1;have hsm:=hk.2 _ (Am hlt);have hm:(E cD ls).getD i []=[.sl 1 (E cC ls[i])]:=aR hlt;cases hb:(λd=>eF fr to (bL d)) ls[i]
     .have hall:ls.all ((λd=>eF fr to (bL d)))=false:=iD (p:=(λd=>eF fr to (bL d))) hlt hb
      repeat' first|simp -dsimp only[go_sem,hw,hm,hb,cFd,cD]|apply Br.mk<;>intro h<;>try simp -dsimp only[h]|refine aA.c (by first|exact eZ _|exact wF fr to _) ?_|refine aC ?_|fail
      all_goals first|omega|(refine aU ?_;simp[aAb,hall,a1];done)|(simp[aAb,hall,a1];done)
     .simp -dsimp only[go_sem,hw,hm,hb,cFd,cD]
      repeat' first|simp -dsimp only[go_sem,hw,hm,hb,cFd,cD]|apply Br.mk<;>intro h<;>try simp -dsimp only[h]|refine aA.c (by first|exact eZ _|exact wF fr to _) ?_|refine aC ?_|fail
      all_goals first|omega|(exact nx (i+1,()) (bH (p:=(λd=>eF fr to (bL d))) hlt hg hb))
    .have hge:i=ls.length:=by
      have:¬i<ls.length:=Dq;omega
     subst hge;simp -dsimp only[go_sem,cFd,cD];have a2:ls.all ((λd=>eF fr to (bL d)))=true:=by simpa using hg
     clear hg hi hc;refine⟨?_,by simp⟩;refine aO.at dM (X:={zz:Nat×(Unit) // zz.1<=ts.length∧(ts.take zz.1).all ((λt:ByteArray=>(t.size:Int)==W (to-fr)))=true}) (λzz=>[(45,.v (.int .i64 zz.1.1))]) (λzz=>[]) (λzz=>ts.length-zz.1.1) ⟨(0,()),by omega,by simp⟩ ?_ ?_
     .exact le0
     .rintro⟨⟨i,_⟩,hi,hg⟩;dsimp only at hi hg;simp -dsimp only[go_sem,cFd,cD];refine Br.mk (λhc=>?_) λhc=>?_
      .have hlt:i<ts.length:=Dq;have hw:=aI hlt hts;have hm:(E cSt ts).getD i []=[.v (.string ts[i])]:=aR hlt;have hne:((ts[i].size:Int) != IntKind.i64.wrap (to-fr)) = !((ts[i].size:Int)==W (to-fr)):=rfl;cases hb:(λt:ByteArray=>(t.size:Int)==W (to-fr)) ts[i]
       .have hall:ts.all ((λt:ByteArray=>(t.size:Int)==W (to-fr)))=false:=iD (p:=(λt:ByteArray=>(t.size:Int)==W (to-fr))) hlt hb
        repeat' first|simp -dsimp only[go_sem,hw,hm,hb,hne,BP,Cb,cFd,cD]|apply Br.mk<;>intro h<;>try simp -dsimp only[h]|refine aC ?_|fail
        all_goals first|omega|(refine aU ?_;simp[aAb,hall,a1,a2];done)|(simp[aAb,hall,a1,a2];done)
       .simp -dsimp only[go_sem,hw,hm,hb,hne,BP,Cb,cFd,cD]
        repeat' first|simp -dsimp only[go_sem,hw,hm,hb,hne,BP,Cb,cFd,cD]|apply Br.mk<;>intro h<;>try simp -dsimp only[h]|refine aC ?_|fail
        all_goals first|omega|(exact nx (i+1,()) (bH (p:=(λt:ByteArray=>(t.size:Int)==W (to-fr))) hlt hg hb))
      .have hge:i=ts.length:=by
        have:¬i<ts.length:=Dq;omega
       subst hge;simp -dsimp only[go_sem,cFd,cD];have a3:ts.all ((λt:ByteArray=>(t.size:Int)==W (to-fr)))=true:=by simpa using hg
       clear hg hi hc;refine⟨?_,by simp⟩;refine aO.at dM (X:={zz:Nat×(Unit) // zz.1<=ts.length∧(ts.take zz.1).all (areCh)=true}) (λzz=>[(60,.v (.int .i64 zz.1.1))]) (λzz=>[]) (λzz=>ts.length-zz.1.1) ⟨(0,()),by omega,by simp⟩ ?_ ?_
       .exact le0
       .rintro⟨⟨i,_⟩,hi,hg⟩;dsimp only at hi hg;simp -dsimp only[go_sem,cFd,cD];refine Br.mk (λhc=>?_) λhc=>?_
        .have hlt:i<ts.length:=Dq;have hw:=aI hlt hts;have hm:(E cSt ts).getD i []=[.v (.string ts[i])]:=aR hlt;cases hb:areCh ts[i]
         .have hall:ts.all (areCh)=false:=iD (p:=areCh) hlt hb
          repeat' first|simp -dsimp only[go_sem,hw,hm,hb,cFd,cD]|apply Br.mk<;>intro h<;>try simp -dsimp only[h]|refine aA.c (by first|exact uD _ (htz _ (Am hlt))) ?_|refine aC ?_|fail
          all_goals first|omega|(refine aU ?_;simp[aAb,hall,a1,a2,a3];done)|(simp[aAb,hall,a1,a2,a3];done)
         .simp -dsimp only[go_sem,hw,hm,hb,cFd,cD]
          repeat' first|simp -dsimp only[go_sem,hw,hm,hb,cFd,cD]|apply Br.mk<;>intro h<;>try simp -dsimp only[h]|refine aA.c (by first|exact uD _ (htz _ (Am hlt))) ?_|refine aC ?_|fail
          all_goals first|omega|(exact nx (i+1,()) (bH (p:=areCh) hlt hg hb))
        .have hge:i=ts.length:=by
          have:¬i<ts.length:=Dq;omega
         subst hge;simp -dsimp only[go_sem,cFd,cD];have a4:ts.all (areCh)=true:=by simpa using hg
         clear hg hi hc;refine⟨?_,by simp⟩;refine aO.at dM (X:={zz:Nat×(Unit) // zz.1<=ls.length∧(ls.take zz.1).all ((bW fr to))=true}) (λzz=>[(70,.v (.int .i64 zz.1.1))]) (λzz=>[]) (λzz=>ls.length-zz.1.1) ⟨(0,()),by omega,by simp⟩ ?_ ?_
         .exact le0
         .rintro⟨⟨i,_⟩,hi,hg⟩;dsimp only at hi hg;simp -dsimp only[go_sem,cFd,cD];refine Br.mk (λhc=>?_) λhc=>?_
          .have hlt:i<ls.length:=Dq;have hw:=aI hlt hk.1;have hsm:=hk.2 _ (Am hlt);have hm:(E cD ls).getD i []=[.sl 1 (E cC ls[i])]:=aR hlt;have hdk:bB ls[i]=true:=(Aw.1 a1) _ (Am hlt);have hfk:eF fr to (bL ls[i])=true:=(Aw.1 a2) _ (Am hlt);have hof:=fE hdk hfk;cases hb:(bW fr to) ls[i]
           .have hall:ls.all ((bW fr to))=false:=iD (p:=(bW fr to)) hlt hb
            repeat' first|simp -dsimp only[go_sem,hw,hm,hb,cFd,cD]|apply Br.mk<;>intro h<;>try simp -dsimp only[h]|refine aA.c (by first|exact qX _ fr to hof hsm.1) ?_|refine aC ?_|fail
            all_goals first|omega|(refine aU ?_;simp[aAb,hall,a1,a2,a3,a4];done)|(simp[aAb,hall,a1,a2,a3,a4];done)
           .simp -dsimp only[go_sem,hw,hm,hb,cFd,cD]
            repeat' first|simp -dsimp only[go_sem,hw,hm,hb,cFd,cD]|apply Br.mk<;>intro h<;>try simp -dsimp only[h]|refine aA.c (by first|exact qX _ fr to hof hsm.1) ?_|refine aC ?_|fail
            all_goals first|omega|(exact nx (i+1,()) (bH (p:=(bW fr to)) hlt hg hb))
          .have hge:i=ls.length:=by
            have:¬i<ls.length:=Dq;omega
           subst hge;simp -dsimp only[go_sem,cFd,cD];have a5:ls.all (bW fr to)=true:=by simpa using hg
           simp[aAb,a1,a2,a3,a4,a5]
theorem aHh (fr to:Int) (l:List (List Int)) (i:Nat):∀k,∃r,stpTo fr to l (i+k)=stpTo fr to l i++r
 |0=>⟨[],by simp⟩
 | k+1=>by
  obtain⟨r,u⟩:=aHh fr to l i k;exact⟨r++(if cmF fr to (l.getD (i+k+1) []) (l.getD (i+k) [])<0 then[((i+k+1:Nat):Int)] else[]),by rw[←Cy,stpTo,u,Bp]⟩
def stF (fr to:Int) (l:List (List Int)):Int:=(stp fr to l).headD (-1)
theorem dO (fr to:Int) (l:List (List Int)):decide (stF fr to l≥0) = !iL fr to l:=by
 have F:∀k,∀x,x∈stpTo fr to l k->0<=x:=by
  intro k
  induction k with
  |zero=>intro x u;simp[stpTo] at u
  | succ k ih =>
   intro x u;rw[stpTo] at u;rcases Be.1 u with u|u
   .exact ih x u
   .split at u
    .simp at u;omega
    .cases u
 unfold stF iL;cases h:stp fr to l with
 |nil=>simp
 | cons x r =>
  have:=F (l.length-1) x (by unfold stp at h;rw[h];simp);simp only[List.headD_cons,ge_iff_le,this,decide_true,Aa]
  symm
  simp;omega
attribute [local go_sem] aH cFd cD in
theorem cK (l:List (List Int)) (fr to:Int) (ho:∀c,c∈l->okF fr to c) (hh:bW fr to l=true) (hl:l.length<=1048576):Fz F.mK [.sl 1 (E cSt (bT fr to l))] (.v (.int .i64 (stF fr to l))):=by
 have hkl:(bT fr to l).length=l.length:=by simp[bT]
 refine fn0 Cd.s_l07Step_k λX=>?_;simp -dsimp only[go_sem,hkl];refine aO.at dM (X:={zz:Nat×(Unit) // zz.1<=l.length-1∧stpTo fr to l zz.1=[]}) (λzz=>[(3,.v (.int .i64 ((zz.1.1+1:Nat):Int)))]) (λzz=>[]) (λzz=>l.length-1-zz.1.1) ⟨(0,()),by omega,by simp[stpTo]⟩ ?_ ?_
 .simp[Vs.LeL,Vs.look,aB,aP,aJ,Vs.hset,aK,Vs.E,stpTo]
 .rintro⟨⟨i,_⟩,hi,hg⟩;dsimp only at hi hg;simp -dsimp only[go_sem,hkl];refine Br.mk (λhc=>?_) λhc=>?_
  .have hlt:i<l.length-1:=Dq;have hw:=aI hlt (by omega);have hl1:i+1<l.length:=by omega
   have hl0:i<l.length:=by omega
   have hk1:=ho _ (Am hl1);have hk0:=ho _ (Am hl0);have hc1:cZ (fH fr to l[i+1])=true:=(Aw.1 hh) _ (Am hl1);have hc0:cZ (fH fr to l[i])=true:=(Aw.1 hh) _ (Am hl0);have hm1:(E cSt (bT fr to l)).getD (i+1) []=[.v (.string (txt (fH fr to l[i+1])))]:=by rw[aR (by omega)];simp[bT,cSt]
   have hm0:(E cSt (bT fr to l)).getD i []=[.v (.string (txt (fH fr to l[i])))]:=by rw[aR (by omega)];simp[bT,cSt]
   have hw2:=aMb hlt hl;have hw3:=aMa hlt hl;have g1:l.getD (i+1) []=l[i+1]:=by simp[List.getD,hl1]
   have g0:l.getD i []=l[i]:=by simp[List.getD,hl0]
   have hcf:jC (fH fr to l[i+1]) (fH fr to l[i])=cmF fr to l[i+1] l[i]:=rfl;by_cases hz:cmF fr to l[i+1] l[i]<0
   .have e1:decide (cmF fr to l[i+1] l[i]<0)=true:=AR hz;have hs:stpTo fr to l (i+1)=[((i+1:Nat):Int)]:=by rw[stpTo,g1,g0,AY hz,hg];rfl
    obtain⟨r,hr⟩:=aHh fr to l (i+1) (l.length-1-(i+1));rw[show i+1+(l.length-1-(i+1))=l.length-1 by omega,hs] at hr;have hst:stF fr to l=((i+1:Nat):Int):=by unfold stF stp;rw[hr];rfl
    repeat' first|simp -dsimp only[go_sem,hw2,hw3,hm1,hm0,hcf,e1,hkl]|apply Br.mk<;>intro h<;>try simp -dsimp only[h]|refine aA.c (by first|exact wD _ _ (aBa hk1) ((lK hk1).trans (lK hk0).symm) hc1 hc0) ?_|refine aC ?_|fail
    all_goals first|omega|(refine aU ?_;simp[hst];done)|(simp[hst];done)
   .have e1:decide (cmF fr to l[i+1] l[i]<0)=false:=AX hz;have hs:stpTo fr to l (i+1)=[]:=by rw[stpTo,g1,g0,AJ hz,hg];rfl
    repeat' first|simp -dsimp only[go_sem,hw2,hw3,hm1,hm0,hcf,e1,hkl]|apply Br.mk<;>intro h<;>try simp -dsimp only[h]|refine aA.c (by first|exact wD _ _ (aBa hk1) ((lK hk1).trans (lK hk0).symm) hc1 hc0) ?_|refine aC ?_|fail
    all_goals first|omega|(exact nx (i+1,()) hs)
  .have hge:i=l.length-1:=by
    have:¬i<l.length-1:=Dq;omega
   subst hge;simp -dsimp only[go_sem,hkl];have hst:stF fr to l=-1:=by unfold stF stp;rw[hg];rfl
   simp[hst]
end
section
variable [Vs.Envs]
attribute [local irreducible] Vs.Fn chOK areCh chTo chAt l03 chB rk cd3 chI stp stpTo
def flt (q:List Int->Bool) (l:List (List Int)):List (List Int):=l.filter λx=>!q x
theorem yB {q:List Int->Bool}{l:List (List Int)}{j:Nat} (h:j<l.length):flt q (l.take (j+1))=flt q (l.take j)++(if q l[j] then[] else[l[j]]):=by
 unfold flt;rw[bU h,List.filter_append];congr 1;cases hq:q l[j]<;>simp[DC,hq]
theorem zT (q:List Int->Bool) (l:List (List Int)):(flt q l).length<=l.length:=List.length_filter_le ..
theorem aFV {q:List Int->Bool}{l:List (List Int)} (h:l.all (λx=>!q x)=true):flt q l=l:=by
 unfold flt;exact List.filter_eq_self.2 (Aw.1 h)
theorem aGO (q:List Int->Bool) (l:List (List Int)):(sP q l=-1∧l.all (λx=>!q x)=true)∨∃i:Nat,∃h:i<l.length,sP q l=i∧q l[i]=true∧(l.take i).all (λx=>!q x)=true:=by
 unfold sP;cases h:l.findIdx? q with
 | none =>
  rw[List.findIdx?_eq_none_iff] at h;exact .inl ⟨rfl,Aw.2 λx u=>by simp[h x u]⟩
 | some i =>
  rw[List.findIdx?_eq_some_iff_getElem] at h;obtain⟨hi,F,h2⟩:=h;refine .inr ⟨i,hi,rfl,F,Aw.2 λx u=>?_⟩;obtain⟨j,G,rfl⟩:=List.mem_take_iff_getElem.1 u;simpa using h2 j (by omega)
theorem aNr (m:List (List Int)) (i:Nat) (x:List Int):(E cC m).set i [.sl 1 (E cI x)]=E cC (m.set i x):=by simp[E,Db,cC]
theorem aBN (l:List (List Int)):(E cC l).take l.length=E cC l:=Ag (by simp[E])
def zR (n:Nat):List (List AV):=List.replicate n [.v (.slice none 0 0)]
theorem aLV {m:List (List Int)}{i n:Nat} (F:m.length=n) (hi:i<=n):aAv (E cC m) i (n-i) [.v (.slice none 0 0)]=E cC (m.take i)++zR (n-i):=by
 unfold aAv zR;have u:(E cC m).take i=E cC (m.take i):=by simp[E,Cz]
 have h2:(E cC m).drop (i+(n-i))=[]:=List.drop_eq_nil_of_le (by rw[aH];omega);rw[u,h2,AA]
theorem aEc {c:List AV} (h:jD c=true) (n:Name):lJ n c=false:=by
 induction c with
 |nil=>rfl
 | cons x r ih =>
  simp only[jD,BO,Au] at h
  have F:x.has n=false:=by
   have u:=h.1;cases x<;>first|rfl|simp[aKK] at u
  simp[lJ,F,ih h.2]
attribute [local irreducible] flt sP zR aAv
attribute [local go_sem] Ai Ah Al Aq Ad Af Ac Ae Aa Ab Ao in
theorem delF (q:List Int->Bool) (g:FuncId) (caps:List AV) (hcaps:jD caps=true) (l:List (List Int)) (hl:l.length<=1048576) (hq:∀x,x∈l->Vs.Fn Tryz.prog g [] (.agg (cC x)::caps) (.v (.bool (q x))) []) :
  Vs.Fn Tryz.prog F.sM [.arr 1 (E cC l) false] [.loc (.b 0) 0 l.length,.fn g caps] (.loc (.b 0) 0 (flt q l).length) [some (.arr 1 (E cC (flt q l)++zR (l.length-(flt q l).length)) false)]:=by
 have hidx:Fz F.lT [.sl 1 (E cC l),.fn g caps] (.v (.int .i64 (sP q l))):=
  aGM Tryz.mixed (k:=1) Cd.ixf_Card_k.o Cd.ixf_Card_k.n Cd.ixf_Card_k.r rfl q g caps hcaps (λ_=>rfl) (λ_=>rfl) hq hl
 refine fn1 Cd.dlf_Card_k [.b 0] [.arr 1 (E cC (flt q l)++zR (l.length-(flt q l).length)) false] λX=>?_;unfold Cd.sM;simp -dsimp only[go_sem,aG hcaps _ 6,aG hcaps _ 7,aBN,aH];refine aA.flat hidx rfl ?_;rcases aGO q l with⟨hn,hall⟩|⟨i0,hi0,hn,hq0,hall⟩
 .have e1:((-1:Int) == -1)=true:=rfl;rw[hn];have hfl:=aFV hall;rw[hfl];have hz0:E cC l++zR (l.length-l.length)=E cC l:=by unfold zR;simp
  simp -dsimp only[go_sem,e1,aH];exact⟨[],[],rfl,by rw[hz0]⟩
 .have e1:((i0:Int) == -1)=false:=Ap.2 (by omega);have hw0:=aI hi0 hl;rw[hn];simp -dsimp only[go_sem,e1,hw0,aH];refine aO.at dM (X:={zz:Nat×Nat×List (List Int) // (zz.1<=l.length∧zz.2.1<zz.1)∧zz.2.2.length=l.length∧zz.2.2.take zz.2.1=flt q (l.take zz.1)∧zz.2.2.drop zz.1=l.drop zz.1}) (λzz=>[(5,.v (.int .i64 zz.1.2.1)),(6,.v (.int .i64 zz.1.1))]) (λzz=>[(.b 0,.arr 1 (E cC zz.1.2.2) false)]) (λzz=>l.length-zz.1.1) ⟨(i0+1,i0,l),⟨show i0+1<=l.length by omega,show i0<i0+1 by omega⟩,rfl,?_,rfl⟩ ?_ ?_
  .show l.take i0=flt q (l.take (i0+1))
   rw[yB hi0,aFV hall,hq0];simp
  .exact le0
  .rintro⟨⟨j,i,m⟩,⟨hj,hij⟩,hm,ht,hd⟩;dsimp only at hj hij hm ht hd;simp -dsimp only[go_sem];refine Br.mk (λhc=>?_) λhc=>?_
   .have hlt:j<l.length:=by simpa using hc
    have hw:=aI hlt hl;have hwi:=aI (show i<l.length by omega) hl;have hjm:j<m.length:=by omega
    have him:i<m.length:=by omega
    have hmj:m[j]=l[j]:=by
     have h1:=Bd (λx=>x[0]?) hd;simpa[List.getElem?_drop,hjm,hlt] using h1
    have hgm:(E cC m).getD j []=[.sl 1 (E cI l[j])]:=by rw[aR hjm,hmj];rfl
    have hgi:(E cC m).getD i []=[.sl 1 (E cI m[i])]:=aR him;have hlm:(E cC m).length=l.length:=by rw[aH];exact hm
    have hcj:Vs.Fn Tryz.prog g [] (.agg [.sl 1 (E cI l[j])]::caps) (.v (.bool (q l[j]))) []:=hq _ (Am hlt);have hsm:=aNr m i l[j]
    have hdd:m.drop (j+1)=l.drop (j+1):=by
     have h1:=Bd (List.drop 1) hd;simpa[List.drop_drop] using h1
    cases hqj:q l[j]
    .have htt:(m.set i l[j]).take (i+1)=flt q (l.take (j+1)):=by
      rw[yB hlt,hqj,←ht,bU (show i<(m.set i l[j]).length by simpa using him)];simp only[List.append_cancel_right_eq,List.getElem_set_self,Bg,A8];rw[List.take_set_of_le (AL _)]
     have hd2:(m.set i l[j]).drop (j+1)=l.drop (j+1):=by rw[List.drop_set_of_lt (by omega),hdd]
     repeat' first|simp -dsimp only[go_sem,hw,hwi,hgm,hgi,hlm,hsm,hqj,aG hcaps _ 6,aG hcaps _ 7,aEc hcaps]|apply Br.mk<;>intro h<;>try simp -dsimp only[h]|refine aA.c (by first|exact hcj) ?_|refine aC ?_|fail
     all_goals first|omega|(exact⟨⟨(j+1,i+1,m.set i l[j]),⟨by dsimp only;omega,by dsimp only;omega⟩,by simpa using hm,htt,hd2⟩,by simp[Vs.LeL,Vs.look,aB,aP,aJ,Vs.hset,aK],by simp only;omega⟩)
    .have htt:m.take i=flt q (l.take (j+1)):=by rw[yB hlt,hqj,←ht];simp
     repeat' first|simp -dsimp only[go_sem,hw,hwi,hgm,hgi,hlm,hsm,hqj,aG hcaps _ 6,aG hcaps _ 7,aEc hcaps]|apply Br.mk<;>intro h<;>try simp -dsimp only[h]|refine aA.c (by first|exact hcj) ?_|refine aC ?_|fail
     all_goals first|omega|(exact⟨⟨(j+1,i,m),⟨by dsimp only;omega,by dsimp only;omega⟩,hm,htt,hdd⟩,by simp[Vs.LeL,Vs.look,aB,aP,aJ,Vs.hset,aK],by simp only;omega⟩)
   .have hge:j=l.length:=by
     have:¬j<l.length:=by simpa using hc
     omega
    subst hge;rw[Ce] at ht;have hfi:(flt q l).length=i:=by rw[←ht];simp;omega
    have hlm:(E cC m).length=l.length:=by rw[aH];exact hm
    have hcl:=aLV hm (show i<=l.length by omega);rw[ht] at hcl;have hti:((l.length:Int)-(i:Int)).toNat=l.length-i:=by omega
    rw[hfi];simp -dsimp only[go_sem,hlm,hcl,hti];have hti2:((i:Int)-0).toNat=i:=by omega
    rw[hti2];exact⟨⟨⟨by omega,by omega,by omega⟩,by omega,⟨by omega,by omega,by omega⟩,⟨[],[],rfl,rfl⟩⟩,λh=>h rfl⟩
end
section
variable [Vs.Envs]
attribute [local irreducible] Vs.Fn chOK areCh chTo chAt l03 chB rk cd3 chI stp stpTo flt sP zR aAv
attribute [local irreducible] bD
def uA (fr to:Int) (o:List (List Int)) (x:List Int):Bool:=o.any λc=>cmF fr to c x==0
def mat (fr to:Int) (l o:List (List Int)) (e:Bool):List (List Int):=flt (λx=>!(uA fr to o x==e)) l
theorem aLC (x:List Int) (o:List (List Int)) (fr to:Int) (e:Bool) (G:okF fr to x) (ho:∀c,c∈o->okF fr to c) (u:o.length<=1048576):Fz F.gP [.agg (cC x),.ro [.sl 1 (E cC o)],.ro (cFd fr to),.ro [.v (.bool e)]] (.v (.bool (!(uA fr to o x==e)))):=by
 refine fn0 Cd.i_MatchDecks_1_1_k λX=>?_
 repeat' first|simp -dsimp only[go_sem,cC,cFd,Ai,Ah,Al,Aq,Ad,Af,Ac,Ae,Aa,Ab,Ao]|apply Br.mk<;>intro h<;>try simp -dsimp only[h]|refine aA.c (by first|exact aKi o x fr to G ho u) ?_|refine aC ?_|fail
 all_goals(simp_all [uA])
theorem aA.borL {P:Program}{f:FuncId}{b:Blk}{ys:List AV}{L:List Vs.Name}{d:Option Nat}{σ:St}{n:Vs.Name}{K:St->Prop}{t:Tag K}{r:AV}{hout:List (Option Blk)} (u:Vs.Fn P f [b] ys r hout) (F:iR (d.getD 0) 1 hout.length σ=true)
  (G:K ⟨put d (rn (phi [n] (d.getD 0) hout.length) r) σ.s,xB σ.h [n] (d.getD 0) hout true L⟩):aA P f [b] ys L d σ [n] K t:=
 ⟨r,hout,true,u,λh=>(by cases h),F,G⟩
theorem aFh (m:List (List Int)) (k:Nat):(E cC m++zR k).take m.length=E cC m:=by
 have:m.length=(E cC m).length:=(aH ..).symm;rw[this,List.take_left'];rfl
attribute [local go_sem] Ai Ah Al Aq Ad Af Ac Ae Aa Ab Ao in
theorem aEO (l o:List (List Int)) (fr to:Int) (e:Bool) (O:∀x,x∈l->x.length<=1048576) (H:l.length<=1048576) (u:o.length<=1048576) (U:∀c,c∈l->okF fr to c) (ho:∀c,c∈o->okF fr to c) :
  Fz F.kP [.sl 1 (E cC l),.sl 1 (E cC o),.v (.bool e),.ro (cFd fr to)] (.sl 1 (E cC (mat fr to l o e))):=by
 have J:=delF (λx=>!(uA fr to o x==e)) F.gP [.ro [.sl 1 (E cC o)],.ro (cFd fr to),.ro [.v (.bool e)]] rfl l H (λx G=>aLC x o fr to e (U x G) ho u);refine fn0 Cd.i_MatchDecks_1_k λX=>?_;simp -dsimp only[go_sem,cC,cFd];refine aA.own (aAU l O H) rfl ?_;simp -dsimp only[go_sem,cC,cFd,AO,AP,aX,bG,aW,Ak,AA];refine⟨rfl,aA.borL J rfl ?_⟩;simp -dsimp only[go_sem,cC,cFd];have M:=aFh (flt (λx=>!(uA fr to o x==e)) l) (l.length-(flt (λx=>!(uA fr to o x==e)) l).length);have I:(flt (λx=>!(uA fr to o x==e)) l).length<=l.length:=zT ..
 have L:mat fr to l o e=flt (λx=>!(uA fr to o x==e)) l:=rfl;rw[L];simp -dsimp only[go_sem,A7,Di,aH,AC,M];exact⟨_,_,rfl,rfl⟩
def mtC (fr to:Int) (a b:List (List Int)):Int:=if jY fr to [a,b]=0 then(if iL fr to a&&iL fr to b then 0 else 6) else jY fr to [a,b]
def mtL (fr to:Int) (a b:List (List Int)):List (List (List Int)):=[mat fr to a b true,mat fr to b a true,mat fr to a b false,mat fr to b a false]
def mtV (fr to:Int) (a b:List (List Int)):AV:=if mtC fr to a b=0 then .sl 1 (E cD (mtL fr to a b)) else .v (.slice none 0 0)
theorem aCE {fr to:Int}{a b:List (List Int)} (h:jY fr to [a,b]=0):(bB a=true∧bB b=true)∧(eF fr to (bL a)=true∧eF fr to (bL b)=true)∧bW fr to a=true∧bW fr to b=true:=by
 unfold jY at h;split at h
 .rename_i u;split at h
  .rename_i h2;split at h
   .rename_i F;simp only[BO,Dw,Bool.and_true,Au] at u h2 F;exact⟨u,h2,F⟩
   .cases h
  .cases h
 .cases h
theorem aAD {a b:List (List Int)} (F:bE a) (G:bE b):aGu [a,b]:=by
 refine⟨by simp,λd u=>?_⟩;simp only[Ay,Az,Bo] at u;rcases u with rfl|rfl<;>assumption
attribute [local irreducible] mat jY iL
attribute [local go_sem] Ai Ah Al Aq Ad Af Ac Ae Aa Ab Ao Dk CZ DJ Di in
theorem qF (a b:List (List Int)) (fr to:Int) (u:bE a) (G:bE b):Fz F.kZ [.sl 1 (E cC a),.sl 1 (E cC b),.agg (cFd fr to)] (.tup [mtV fr to a b,.v (.int .i64 (mtC fr to a b))]):=by
 have L:[[AV.sl 1 (E cC a)],[AV.sl 1 (E cC b)]]=E cD [a,b]:=rfl;by_cases H:jY fr to [a,b]=0
 rotate_left
 .have Y:(jY fr to [a,b] != 0)=true:=by simp[H]
  refine fn0 Cd.i_MatchDecks_k λX=>?_
  repeat' first|simp -dsimp only[go_sem,cFd,L,Y]|apply Br.mk<;>intro h<;>try simp -dsimp only[h]|refine aA.c (by first|exact vM fr to [a,b] (aAD u G)) ?_|refine aC ?_|fail
  all_goals simp[mtV,mtC,H]
 obtain⟨⟨U,V⟩,⟨fa,Z⟩,ca,cb⟩:=aCE H;have I:=fE U fa;have J:=fE V Z;cases hs:iL fr to a&&iL fr to b
 .have hn:(!iL fr to a||!iL fr to b)=true:=by
   cases M:iL fr to a<;>cases h2:iL fr to b<;>simp_all
  refine fn0 Cd.i_MatchDecks_k λX=>?_
  repeat' first|simp -dsimp only[go_sem,cFd,L,H]|apply Br.mk<;>intro h<;>try simp -dsimp only[h]|refine aA.c (by first|exact vM fr to [a,b] (aAD u G)|exact aZ a fr to I u.1|exact aZ b fr to J G.1) ?_|refine aC ?_|fail
  all_goals first|(simp_all [mtV,mtC];done)|(refine aU ?_;simp_all [mtV,mtC];done)
 have M:iL fr to a=true:=by simp only[Au] at hs;exact hs.1
 have h2:iL fr to b=true:=by simp only[Au] at hs;exact hs.2
 refine fn0 Cd.i_MatchDecks_k λX=>?_
 repeat' first|simp -dsimp only[go_sem,cFd,L,H,M,h2]|apply Br.mk<;>intro h<;>try simp -dsimp only[h]|refine aA.c (by first|exact vM fr to [a,b] (aAD u G)|exact aZ a fr to I u.1|exact aZ b fr to J G.1|exact aEO a b fr to true u.2 u.1 G.1 I J|exact aEO b a fr to true G.2 G.1 u.1 J I|exact aEO a b fr to false u.2 u.1 G.1 I J|exact aEO b a fr to false G.2 G.1 u.1 J I) ?_|refine aC ?_|fail
 all_goals (have O:mtC fr to a b=0:=by simp[mtC,H,hs]
            have hv:mtV fr to a b=.sl 1 (E cD (mtL fr to a b)):=by simp[mtV,O]
            rw[O,hv]

            first|exact⟨_,_,rfl,rfl⟩|(refine aU rfl))
end
section
variable [Vs.Envs]
attribute [local irreducible] Vs.Fn chOK areCh chTo chAt l03 chB rk cd3 chI stp stpTo stb
theorem aGs (g:FuncId) (caps:List AV) (u:jD caps=true) (G:Int->Int->Int) (D:Int->Prop) (J:aBi Tryz.prog g caps G D) (l:List Int) (I:∀x,x∈l->D x) (L:l.length<=40) :
  Vs.Fn Tryz.prog F.iM [.arr 1 (E cI l) false] [.loc (.b 0) 0 l.length,.fn g caps] (.tup []) [some (.arr 1 (E cI (stb (ltf G) l)) false)]:=by
 have H:=stable g caps u G D J l I L;refine fn1 Cd.sortst___int64_k [.b 0] [.arr 1 (E cI (stb (ltf G) l)) false] λX=>?_;unfold Cd.iM
 repeat' first|simp -dsimp only[go_sem,AO,AP,aX,bG,aW,Ak,AA,Af,Ad,aG u _ 6,aG u _ 7,aH]|apply Br.mk<;>intro h<;>try simp -dsimp only[h]|refine aA.bor (by first|exact H) rfl ?_|refine aC ?_|fail
 all_goals first|exact⟨_,_,rfl,rfl⟩
def cfO (fr to:Int) (l:List (List Int)) (i j:Int):Int:=cmF fr to (l.getD i.toNat []) (l.getD j.toNat [])
def inO (n:Nat) (x:Int):Prop:=0<=x∧x<(n:Int)
theorem aBG {l:List (List Int)}{x:Int} (h:inO l.length x):(E cC l).getD x.toNat []=[.sl 1 (E cI (l.getD x.toNat []))]:=by
 have u:x.toNat<l.length:=by have:=h.1;have:=h.2;omega
 rw[aR u];simp[cC,List.getD,u]
theorem nL {l:List (List Int)}{x:Int} (h:inO l.length x):l.getD x.toNat []∈l:=by
 have u:x.toNat<l.length:=by have:=h.1;have:=h.2;omega
 have e:l.getD x.toNat []=l[x.toNat]:=by simp[List.getD,u]
 rw[e];exact Am u
theorem aJJ (l:List (List Int)) (fr to:Int) (ho:∀c,c∈l->okF fr to c):aBi Tryz.prog F.mW [.ro [.sl 1 (E cC l)],.ro (cFd fr to)] (cfO fr to l) (inO l.length):=by
 intro x y u G;have H:=aBG u;have I:=aBG G;have J:=u.1;have L:=u.2;have M:=G.1;have O:=G.2;have C:=lZ (l.getD x.toNat []) (l.getD y.toNat []) fr to (ho _ (nL u)) (ho _ (nL G));rw[show cmF fr to (l.getD x.toNat []) (l.getD y.toNat [])=cfO fr to l x y from rfl] at C;refine fn0 Cd.i_orderBy_1_k λX=>?_
 repeat' first|simp -dsimp only[go_sem,cC,cFd,H,I,aH]|apply Br.mk<;>intro h<;>try simp -dsimp only[h]|refine aA.c (by first|exact C) ?_|refine aC ?_|fail
 all_goals first|exact⟨_,_,rfl,rfl⟩|simp
def iota (n:Nat):List Int:=(List.range n).map λi:Nat=>(i:Int)
theorem aD8 (n:Nat):iota (n+1)=iota n++[(n:Int)]:=by simp[iota,Dt]
theorem nQ (n:Nat):(iota n).length=n:=by simp[iota]
theorem aCx {n:Nat}:∀x,x∈iota n->inO n x:=by
 intro x u;obtain⟨i,hi,rfl⟩:=BG.1 u;have:=BI.1 hi;exact⟨by omega,by omega⟩
def pM (fr to:Int) (l:List (List Int)):List Int:=stb (ltf (cfO fr to l)) (iota l.length)
theorem uU (fr to:Int) (l:List (List Int)):(pM fr to l).length=l.length:=by rw[pM,aGq,nQ]
attribute [local go_sem] aH Ar Ay Az Vs.Name.t.injEq AO AP Ak AA Af Ad in
theorem aLq (l:List (List Int)) (fr to:Int) (ho:∀c,c∈l->okF fr to c) (hl:l.length<=40):Fz F.u6 [.sl 1 (E cC l),.agg (cFd fr to)] (.sl 1 (E cI (pM fr to l))):=by
 refine fn0 Cd.i_orderBy_k λX=>?_
 repeat' first|simp -dsimp only[go_sem,cC,cFd]|apply Br.mk<;>intro h<;>try simp -dsimp only[h]|refine aC ?_|fail
 refine aO.at dM (X:={zz:Nat×(Unit) // zz.1<=l.length∧True}) (λzz=>[(5,.loc (.t 5 0) 0 zz.1.1),(10,.v (.int .i64 zz.1.1))]) (λzz=>[(.t 5 0,.arr 1 (E cI (iota zz.1.1)) false)]) (λzz=>l.length-zz.1.1) ⟨(0,()),by omega,trivial⟩ ?_ ?_
 .simp[Vs.LeL,Vs.look,aB,aP,aJ,Vs.hset,aK,Vs.E,iota]
 .rintro⟨⟨i,_⟩,hi,hg⟩;dsimp only at hi hg;simp -dsimp only[go_sem,cC,cFd,nQ,Bo,Bq,aX,bG,aW];refine Br.mk (λhc=>?_) λhc=>?_
  .have hlt:i<l.length:=Dq;have hw:=aI hlt (by omega);have hap:E cI (iota i)++[[.v (.int .i64 (i:Int))]]=E cI (iota (i+1)):=by rw[aD8,aS];rfl
   repeat' first|simp -dsimp only[go_sem,hw,hap,cC,cFd,nQ,Bo,Bq,aX,bG,aW]|apply Br.mk<;>intro h<;>try simp -dsimp only[h]|refine aC ?_|fail
   all_goals first|omega|(exact nx (i+1,()) trivial (h2:=by simp[Vs.LeL,Vs.look,aB,aP,aJ,Vs.hset,aK,hap]))
  .have hge:i=l.length:=by
    have:¬i<l.length:=Dq;omega
   subst hge;simp -dsimp only[go_sem,cC,cFd,nQ,Bo,Bq,aX,bG,aW];have ST:=aGs F.mW [.ro [.sl 1 (E cC l)],.ro (cFd fr to)] rfl (cfO fr to l) (inO l.length) (aJJ l fr to ho) (iota l.length) aCx (by rw[nQ];exact hl);rw[show stb (ltf (cfO fr to l)) (iota l.length)=pM fr to l from rfl,nQ] at ST;refine⟨⟨rfl,aA.borL ST rfl ?_⟩,λh=>h rfl⟩;simp -dsimp only[go_sem,uU fr to l,Bo,Bq,aX,bG,aW];have htk:(E cI (pM fr to l)).take l.length=E cI (pM fr to l):=Ag (by rw[aH,uU fr to l];exact AL _)
   first|exact⟨_,_,rfl,rfl⟩|(simp only[htk];exact⟨_,_,rfl,rfl⟩)
theorem aBF:∀(a b:List Int),a.length=b.length->jC b a=- jC a b
 | [],[],_=>rfl
 | x::a,y::b,h=>by
  have G:=aBF a b (by simpa using h);simp only[jC];by_cases u:rk x<rk y
  .have h2:¬rk y<rk x:=by omega
   have F:rk y>rk x:=by omega
   simp[u,h2,F]
  .by_cases h2:rk y<rk x
   .simp[u,h2]
   .simp[u,h2,G]
 | [],_::_,h=>by simp at h
 |_::_,[],h=>by simp at h
theorem aEk:∀(a b c:List Int),a.length=b.length->b.length=c.length->jC a b=0->jC a c=jC b c
 | [],[],c,_,_,_=>rfl
 |x::a,y::b,[],_,h,_=>by simp at h
 | x::a,y::b,z::c,h1,h2,h=>by
  simp only[jC] at h⊢;split at h
  .cases h
  .split at h
   .cases h
   .have u:=aEk a b c (by simpa using h1) (by simpa using h2) h;have e:rk x=rk y:=by omega
    rw[e,u]
 | [],_::_,_,h,_,_=>by simp at h
 |_::_,[],_,h,_,_=>by simp at h
theorem aDu:∀(a b c:List Int),a.length=b.length->b.length=c.length->jC a b<0->jC b c<=0->jC a c<0
 | [],[],c,_,_,h,_=>by simp[jC] at h
 |x::a,y::b,[],_,h,_,_=>by simp at h
 | x::a,y::b,z::c,h1,h2,h,h'=>by
  simp only[jC] at h h'⊢;split at h
  .split at h'
   .rw[AY (by omega)];omega
   .split at h'
    .omega
    .rw[AY (by omega)];omega
  .split at h
   .omega
   .split at h'
    .rw[AY (by omega)];omega
    .split at h'
     .omega
     .rw[AJ (by omega),AJ (by omega)];exact aDu a b c (by simpa using h1) (by simpa using h2) h h'
 | [],_::_,_,h,_,_,_=>by simp at h
 |_::_,[],_,h,_,_,_=>by simp at h
end
section
variable [Vs.Envs]
attribute [local irreducible] Vs.Fn chOK areCh chTo chAt l03 chB rk cd3 chI stp stpTo stb
def xO (fr to:Int) (l:List (List Int)) (x y:Int):Prop:=(inO l.length x∧inO l.length y)∧(cfO fr to l x y<0∨(cfO fr to l x y=0∧x<y))
section
variable {fr to:Int}{l:List (List Int)} (ho:∀c,c∈l->okF fr to c)
include ho
theorem qH {x:Int} (u:inO l.length x):(fH fr to (l.getD x.toNat [])).length=to.toNat-fr.toNat:=lK (ho _ (nL u))
theorem aCF {x y:Int} (u:inO l.length x) (F:inO l.length y):cfO fr to l y x=- cfO fr to l x y:=aBF _ _ (by rw[qH ho u,qH ho F])
theorem aLY {x y z:Int} (F:inO l.length x) (u:inO l.length y) (G:inO l.length z) (h:cfO fr to l x y=0):cfO fr to l x z=cfO fr to l y z:=
 aEk _ _ _ (by rw[qH ho F,qH ho u]) (by rw[qH ho u,qH ho G]) h
theorem aKJ {x y z:Int} (F:inO l.length x) (u:inO l.length y) (G:inO l.length z) (h:cfO fr to l x y<0) (h':cfO fr to l y z<=0):cfO fr to l x z<0:=
 aDu _ _ _ (by rw[qH ho F,qH ho u]) (by rw[qH ho u,qH ho G]) h h'
theorem mE (x y z:Int) (u:xO fr to l x y) (h2:xO fr to l y z):xO fr to l x z:=by
 obtain⟨⟨F,H⟩,u⟩:=u;obtain⟨⟨_,G⟩,h2⟩:=h2;refine⟨⟨F,G⟩,?_⟩;rcases u with u|⟨u,h3⟩
 .exact .inl (aKJ ho F H G u (by omega))
 .rw[aLY ho F H G u];rcases h2 with h2|⟨h2,h4⟩
  .exact .inl h2
  .exact .inr ⟨h2,by omega⟩
theorem aBp (x y:Int) (u:xO fr to l x y):¬xO fr to l y x:=by
 rintro⟨⟨G,F⟩,h2⟩;have e:=aCF ho F G;have u:=u.2;omega
theorem aIH:(iota l.length).Pairwise (aDQ (ltf (cfO fr to l)) (xO fr to l)):=by
 unfold iota;rw[List.pairwise_map];refine List.Pairwise.imp_of_mem (R:=λa b=>a<b) ?_ List.pairwise_lt_range;intro a b H J I;have u:inO l.length (a:Int):=⟨by omega,by have:=BI.1 H;omega⟩;have F:inO l.length (b:Int):=⟨by omega,by have:=BI.1 J;omega⟩;have e:=aCF ho u F;refine⟨?_,?_⟩
 .simp only[ltf,Bb];exact⟨λh=>⟨⟨F,u⟩,.inl h⟩,λh=>by have:=h.2;omega⟩
 .by_cases h:cfO fr to l b a<0
  .exact .inr ⟨⟨F,u⟩,.inl h⟩
  .refine .inl ⟨⟨u,F⟩,?_⟩;by_cases G:cfO fr to l a b=0
   .exact .inr ⟨G,by omega⟩
   .exact .inl (by omega)
theorem aCV (u:l.length<=40):(pM fr to l).Perm (iota l.length)∧(pM fr to l).Pairwise (xO fr to l):=
 aK7 (mE ho) (aBp ho) (by rw[nQ];exact u) (aIH ho)
theorem aEJ (u:l.length<=40):∀x,x∈pM fr to l->inO l.length x:=λx F=>aCx x ((aCV ho u).1.mem_iff.1 F)
end
attribute [local irreducible] pM
def eU (fr to:Int) (l:List (List Int)):List (List Int):=(pM fr to l).map λi=>l.getD i.toNat []
attribute [local go_sem] aH Ai Ah Al Aq Ad Af Ac Ae Aa Ab Ao in
theorem aAC (l:List (List Int)) (fr to:Int) (ho:∀c,c∈l->okF fr to c) (hl:l.length<=40):Fz F.oW [.sl 1 (E cC l),.agg (cFd fr to)] (.sl 1 (E cC (eU fr to l))):=by
 have OB:=aLq l fr to ho hl;have hol:=uU fr to l;have hoi:=aEJ ho hl;rw[show eU fr to l=(pM fr to l).map (λi=>l.getD i.toNat []) from rfl];generalize pM fr to l=o at *
 refine fn0 Cd.i_sortedBy_k λX=>?_
 repeat' first|simp -dsimp only[go_sem,cC,cFd]|apply Br.mk<;>intro h<;>try simp -dsimp only[h]|refine aA.c (by first|exact OB) ?_|refine aC ?_|fail
 refine aO.at dM (X:={zz:Nat×(Unit) // zz.1<=o.length∧True}) (λzz=>[(5,.loc (.t 5 0) 0 zz.1.1),(13,.v (.int .i64 zz.1.1))]) (λzz=>[(.t 5 0,.arr 1 (E cC ((o.take zz.1.1).map λi=>l.getD i.toNat [])) false)]) (λzz=>o.length-zz.1.1) ⟨(0,()),by omega,trivial⟩ ?_ ?_
 .simp[Vs.LeL,Vs.look,aB,aP,aJ,Vs.hset,aK,Vs.E]
 .rintro⟨⟨i,_⟩,hi,hg⟩;dsimp only at hi hg;simp -dsimp only[go_sem,cC,cFd];refine Br.mk (λhc=>?_) λhc=>?_
  .have hlt:i<o.length:=Dq;have hw:=aI hlt (by omega);have hx:=hoi _ (Am hlt);have gx:=aBG hx;have hm:=nL hx;have hc20:(l.getD o[i].toNat []).length<=20:=(ho _ hm).2.2.2;have NC:=aCo (l.getD o[i].toNat []) (by omega);have x0:=hx.1;have x1:=hx.2
   have hap:E cC ((o.take i).map λi=>l.getD i.toNat [])++[[.sl 1 (E cI (l.getD o[i].toNat []))]]=E cC ((o.take (i+1)).map λi=>l.getD i.toNat []):=by
    rw[bU hlt,Cm,aS];rfl
   have hal:(E cC ((o.take i).map λi=>l.getD i.toNat [])).length=i:=by rw[aH];simp;omega
   repeat' first|simp -dsimp only[go_sem,dJ hlt,hw,hap,hal,gx,cC,cFd]|apply Br.mk<;>intro h<;>try simp -dsimp only[h]|refine aA.c (by first|exact NC) ?_|refine aC ?_|fail
   all_goals first|omega|(exact nx (i+1,()) trivial (h2:=by simp[Vs.LeL,Vs.look,aB,aP,aJ,Vs.hset,aK,hap]))
  .have hge:i=o.length:=by
    have:¬i<o.length:=Dq;omega
   subst hge;simp -dsimp only[go_sem,cC,cFd]
   have htk:(E cC ((o.take o.length).map λi=>l.getD i.toNat [])).take o.length=E cC (o.map λi=>l.getD i.toNat []):=by
    rw[Ag (AL o.length)];exact Ag (by rw[aH];simp)
   first|exact⟨⟨_,_,rfl,rfl⟩,λh=>h rfl⟩|(rw[htk];exact⟨⟨_,_,rfl,rfl⟩,λh=>h rfl⟩)|(simp[htk];done)
end
end Go.Proofs.YtmiiohemehacjaaGreatDoor
