/- Fields of cards: comparisons, keys, steps down. -/
import Derived.Test.YtklmdppgonhflaaGreatDoorXwQb
import Derived.Test.YtklmdppgonhflaaGreatDoorXwD
import Derived.Test.YtklmdppgonhflaaGreatDoorXuF
set_option linter.all false
set_option maxHeartbeats 8000000
namespace Go.Proofs.YtklmdppgonhflaaGreatDoor
open Go.Vs
section
variable [Vs.Envs]
attribute [local irreducible] Vs.Fn dJ bB dK dL l03 chB rk cd3
attribute [local go_sem] Af Ag Ao Aq Ae Aj Ad Al Ac Ai Ap
theorem wI {l:List Int} (h:cK l=true) {i:Nat} (hi:i<l.length):0<=rk l[i]:=by
 simp only[cK,Az,Bb] at h;exact h _ (Aa hi)
theorem aH5 {l:List Int}{i:Nat} (hi:i<l.length):E cU ((l.map chI).take i)++[[.v (.int .u8 (chI l[i]))]]=E cU ((l.map chI).take (i+1)):=by
 have h2:i<(l.map chI).length:=by simpa using hi
 rw[bM h2,aV];simp[E,cU]
theorem aH6 {l:List Int}{i:Nat} (hi:i<=l.length):((l.map chI).take i).length=i:=by simp;omega
theorem aL0 (m:Int):(chB (rk m).toNat:Int)=chI m:=rfl
theorem zX (l:List Int):jD ((l.map chI).take l.length)=txt l:=by unfold txt;rw[Ah (by simp)]
attribute [local irreducible] chI
theorem textOf (l:List Int) (hl:l.length<=1048576) (hh:cK l=true):Fz F.zC [.sl 1 (E cI l)] (.v (.string (txt l))):=by
 refine fn0 Cd.i_textOf_k λX=>?_;simp -dsimp only[go_sem];refine⟨⟨by omega,by omega⟩,?_⟩;refine aP.at dM (X:={zz:Nat×(Unit) // zz.1<=l.length∧True}) (λzz=>[(3,.loc (.t 3 0) 0 zz.1.1),(9,.v (.int .i64 zz.1.1))]) (λzz=>[(.t 3 0,.arr 1 (E cU ((l.map chI).take zz.1.1)) false)]) (λzz=>l.length-zz.1.1) ⟨(0,()),by omega,trivial⟩ ?_ ?_
 .simp[Vs.LeL,Vs.look,aB,aQ,aK,Vs.hset,aL,Vs.E]
 .rintro⟨⟨i,_⟩,hi,hg⟩;dsimp only at hi hg;simp -dsimp only[go_sem,mK,zX];refine Br.mk (λhc=>?_) λhc=>?_
  .have hlt:i<l.length:=Dq;have hw:=aJ hlt hl;have hr:=wI hh hlt;have hr2:=(aDd l[i]).2;have hap:=aH5 hlt;have htl:=aH6 (l:=l) (i:=i) (by omega)
   repeat' first|simp -dsimp only[go_sem,hw,dI hlt,chL,chS,aL0,hap,htl,aH]|apply Br.mk<;>intro h<;>try simp -dsimp only[h]|refine aA.c (by first|exact aDi _) ?_|refine aC ?_|refine aC9 ?_|fail
   all_goals first|omega|(exact nx (i+1,()) trivial)
  .have hge:i=l.length:=by
    have:¬i<l.length:=Dq;omega
   subst hge;simp -dsimp only[go_sem,mK,zX];have ht:(E cU ((l.map chI).take l.length)).take l.length=E cU ((l.map chI).take l.length):=Ah (by simp[Vs.E]);simp[ht,mK,zX]
def aDE (l:List Int):ByteArray×Bool:=if cK l then(txt l,true) else(⟨#[]⟩,false)
theorem aHE {l:List Int}{i:Nat} (hi:i<l.length) (h:cK (l.take i)=true) (h2:0<=rk l[i]):cK (l.take (i+1))=true:=by
 unfold cK at h⊢;exact bH (p:=λm=>decide (0<=rk m)) hi h (by simpa using h2)
theorem aEG {l:List Int}{i:Nat} (hi:i<l.length) (h2:¬0<=rk l[i]):cK l=false:=by
 unfold cK;exact iK (p:=λm=>decide (0<=rk m)) hi (by simpa using h2)
theorem aM8 (l:List Int) (hl:l.length<=1048576):Fz F.vH [.sl 1 (E cI l)] (.tup [.v (.string (aDE l).1),.v (.bool (aDE l).2)]):=by
 refine fn0 Cd.s_l03Text_k λX=>?_;simp -dsimp only[go_sem];refine⟨⟨by omega,by omega⟩,?_⟩;refine aP.at dM (X:={zz:Nat×(Unit) // zz.1<=l.length∧cK (l.take zz.1)=true}) (λzz=>[(4,.loc (.t 4 0) 0 zz.1.1),(5,.v (.int .i64 zz.1.1))]) (λzz=>[(.t 4 0,.arr 1 (E cU ((l.map chI).take zz.1.1)) false)]) (λzz=>l.length-zz.1.1) ⟨(0,()),by omega,by simp[cK]⟩ ?_ ?_
 .simp[Vs.LeL,Vs.look,aB,aQ,aK,Vs.hset,aL,Vs.E]
 .rintro⟨⟨i,_⟩,hi,hg⟩;dsimp only at hi hg;simp -dsimp only[go_sem,mK,zX];refine Br.mk (λhc=>?_) λhc=>?_
  .have hlt:i<l.length:=Dq;have hw:=aJ hlt hl;have hr2:=(aDd l[i]).2;have hap:=aH5 hlt;have htl:=aH6 (l:=l) (i:=i) (by omega);by_cases hz:0<=rk l[i]
   .have e1:aGl l[i]=(chI l[i],true):=by simp[aGl,hz]
    repeat' first|simp -dsimp only[go_sem,hw,dI hlt,e1,hap,htl,aH]|apply Br.mk<;>intro h<;>try simp -dsimp only[h]|refine aA.c (by first|exact aID _) ?_|refine aC ?_|refine aC9 ?_|fail
    all_goals first|omega|(exact nx (i+1,()) (aHE hlt hg hz))
   .have e1:aGl l[i]=(0,false):=by simp[aGl,hz]
    repeat' first|simp -dsimp only[go_sem,hw,dI hlt,e1]|apply Br.mk<;>intro h<;>try simp -dsimp only[h]|refine aA.c (by first|exact aID _) ?_|refine aC ?_|refine aC9 ?_|fail
    all_goals first|omega|(refine aR ?_;simp[aDE,aEG hlt hz];done)|(simp[aDE,aEG hlt hz];done)
  .have hge:i=l.length:=by
    have:¬i<l.length:=Dq;omega
   subst hge;simp -dsimp only[go_sem,mK,zX];have hh:cK l=true:=by simpa using hg
   have ht:(E cU ((l.map chI).take l.length)).take l.length=E cU ((l.map chI).take l.length):=Ah (by simp[Vs.E]);simp[ht,mK,zX,aDE,hh]
def jM:List Int->List Int->Int
 |x::a,y::b=>if rk x<rk y then -1 else if rk x>rk y then 1 else jM a b
 |_,_=>0
theorem aEM {a b:List Int}{i:Nat} (F:i<a.length) (G:i<b.length):jM (a.drop i) (b.drop i)=if rk a[i]<rk b[i] then -1 else if rk a[i]>rk b[i] then 1 else jM (a.drop (i+1)) (b.drop (i+1)):=by
 rw[Ci F,Ci G,jM]
theorem aBw (a b:List Int) (hl:a.length<=1048576) (hab:a.length=b.length):Fz F.iZ [.sl 1 (E cI a),.sl 1 (E cI b)] (.v (.int .i64 (jM a b))):=by
 refine fn0 Cd.i_compareHoles_k λX=>?_;simp -dsimp only[go_sem];refine aP.at dM (X:={zz:Nat×(Unit) // zz.1<=a.length∧jM (a.drop zz.1) (b.drop zz.1)=jM a b}) (λzz=>[(10,.v (.int .i64 zz.1.1))]) (λzz=>[]) (λzz=>a.length-zz.1.1) ⟨(0,()),by omega,by simp⟩ ?_ ?_
 .exact le0
 .rintro⟨⟨i,_⟩,hi,hg⟩;dsimp only at hi hg;simp -dsimp only[go_sem];refine Br.mk (λhc=>?_) λhc=>?_
  .have hlt:i<a.length:=Dq;have hw:=aJ hlt hl;have hlb:i<b.length:=by omega
   rw[aEM hlt hlb] at hg;by_cases h1:rk a[i]<rk b[i]
   .have e1:decide (rk a[i]<rk b[i])=true:=A9 h1;rw[AP h1] at hg
    repeat' first|simp -dsimp only[go_sem,hw,dI hlt,dI hlb,e1]|apply Br.mk<;>intro h<;>try simp -dsimp only[h]|refine aA.c (by first|exact aDi _) ?_|refine aC ?_|refine aC9 ?_|fail
    all_goals first|omega|(refine aR ?_;simp[←hg];done)|(simp[←hg];done)
   .have e1:decide (rk a[i]<rk b[i])=false:=AQ h1;rw[AC h1] at hg;by_cases h2:rk a[i]>rk b[i]
    .have e2:decide (rk a[i]>rk b[i])=true:=A9 h2;rw[AP h2] at hg
     repeat' first|simp -dsimp only[go_sem,hw,dI hlt,dI hlb,e1,e2]|apply Br.mk<;>intro h<;>try simp -dsimp only[h]|refine aA.c (by first|exact aDi _) ?_|refine aC ?_|refine aC9 ?_|fail
     all_goals first|omega|(refine aR ?_;simp[←hg];done)|(simp[←hg];done)
    .have e2:decide (rk a[i]>rk b[i])=false:=AQ h2;rw[AC h2] at hg
     repeat' first|simp -dsimp only[go_sem,hw,dI hlt,dI hlb,e1,e2]|apply Br.mk<;>intro h<;>try simp -dsimp only[h]|refine aA.c (by first|exact aDi _) ?_|refine aC ?_|refine aC9 ?_|fail
     all_goals first|omega|(exact nx (i+1,()) hg)
  .have hge:i=a.length:=by
    have:¬i<a.length:=Dq;omega
   subst hge;simp -dsimp only[go_sem]
   have hg2:jM a b=0:=by
    rw[←hg,De];cases b.drop a.length<;>rfl
   simp[hg2]
theorem aC6 (l:List Int):(txt l).size=l.length:=by simp[txt,jD,ByteArray.size]
theorem aEZ {l:List Int} (h:cK l=true) {i:Nat} (hi:i<l.length):((txt l).data.toList.getD i 0).toNat=chB (rk l[i]).toNat:=by
 have h2:=aOQ (rk l[i]).toNat (by have:=(aDd l[i]).2;omega);have F:=aL0 l[i];simp only[txt,jD,A8,Cv,Ba hi,AU,Cc,←F,BR];rw[UInt8.toNat_ofNat',Nat.mod_eq_of_lt (by simpa using h2)]
theorem xE (a b:List Int) (hl:a.length<=1048576) (hab:a.length=b.length) (ha:cK a=true) (hb:cK b=true):Fz F.fP [.v (.string (txt a)),.v (.string (txt b))] (.v (.int .i64 (jM a b))):=by
 have hsa:=aC6 a;have hsb:=aC6 b;refine fn0 Cd.s_l03Compare_k λX=>?_;simp -dsimp only[go_sem];refine aP.at dM (X:={zz:Nat×(Unit) // zz.1<=a.length∧jM (a.drop zz.1) (b.drop zz.1)=jM a b}) (λzz=>[(5,.v (.int .i64 zz.1.1))]) (λzz=>[]) (λzz=>a.length-zz.1.1) ⟨(0,()),by omega,by simp⟩ ?_ ?_
 .exact le0
 .rintro⟨⟨i,_⟩,hi,hg⟩;dsimp only at hi hg;simp -dsimp only[go_sem,hsa,hsb];refine Br.mk (λhc=>?_) λhc=>?_
  .have hlt:i<a.length:=Dq;have hw:=aJ hlt hl;have hlb:i<b.length:=by omega
   rw[aEM hlt hlb] at hg;have ra:=wI ha hlt;have rb:=wI hb hlb;have ra2:=(aDd a[i]).2;have rb2:=(aDd b[i]).2;have ta:=aEZ ha hlt;have tb:=aEZ hb hlb;have na:((rk a[i]).toNat:Int)=rk a[i]:=by omega
   have nb:((rk b[i]).toNat:Int)=rk b[i]:=by omega
   by_cases h1:rk a[i]<rk b[i]
   .have e1:decide (rk a[i]<rk b[i])=true:=A9 h1;rw[AP h1] at hg
    repeat' first|simp -dsimp only[go_sem,hw,dI hlt,dI hlb,e1,hsa,hsb,ta,tb,na,nb]|apply Br.mk<;>intro h<;>try simp -dsimp only[h]|refine aA.c (by first|exact aFo _ (by omega)) ?_|refine aC ?_|refine aC9 ?_|fail
    all_goals first|omega|(refine aR ?_;simp[←hg];done)|(simp[←hg];done)
   .have e1:decide (rk a[i]<rk b[i])=false:=AQ h1;rw[AC h1] at hg;by_cases h2:rk a[i]>rk b[i]
    .have e2:decide (rk a[i]>rk b[i])=true:=A9 h2;rw[AP h2] at hg
     repeat' first|simp -dsimp only[go_sem,hw,dI hlt,dI hlb,e1,e2,hsa,hsb,ta,tb,na,nb]|apply Br.mk<;>intro h<;>try simp -dsimp only[h]|refine aA.c (by first|exact aFo _ (by omega)) ?_|refine aC ?_|refine aC9 ?_|fail
     all_goals first|omega|(refine aR ?_;simp[←hg];done)|(simp[←hg];done)
    .have e2:decide (rk a[i]>rk b[i])=false:=AQ h2;rw[AC h2] at hg
     repeat' first|simp -dsimp only[go_sem,hw,dI hlt,dI hlb,e1,e2,hsa,hsb,ta,tb,na,nb]|apply Br.mk<;>intro h<;>try simp -dsimp only[h]|refine aA.c (by first|exact aFo _ (by omega)) ?_|refine aC ?_|refine aC9 ?_|fail
     all_goals first|omega|(exact nx (i+1,()) hg)
  .have hge:i=a.length:=by
    have:¬i<a.length:=Dq;omega
   subst hge;simp -dsimp only[go_sem,hsa,hsb]
   have hg2:jM a b=0:=by
    rw[←hg,De];cases b.drop a.length<;>rfl
   simp[hg2]
end
section
variable [Vs.Envs]
attribute [local irreducible] Vs.Fn dJ bB dK dL l03 chB rk cd3 chI
def fH (fr to:Int) (c:List Int):List Int:=(c.take to.toNat).drop fr.toNat
def okF (fr to:Int) (c:List Int):Prop:=0<=fr∧fr<to∧to<=c.length∧c.length<=20
theorem mE {fr to:Int}{c:List Int} (h:okF fr to c):(fH fr to c).length=to.toNat-fr.toNat:=by
 obtain⟨F,G,h2,H⟩:=h;simp[fH];omega
theorem aBq {fr to:Int}{c:List Int} (h:okF fr to c):(fH fr to c).length<=1048576:=by
 have:=mE h;obtain⟨F,G,h2,H⟩:=h;omega
theorem bZ {fr to:Int}{c:List Int} (h:okF fr to c):0<=fr∧fr<=to∧to<=((E cI c).length:Int):=by
 obtain⟨F,G,h2,H⟩:=h;rw[aH];omega
theorem bG {fr to:Int}{c:List Int} (h:okF fr to c):0<=fr∧fr<=to∧to<=(c.length:Int):=by
 obtain⟨F,G,h2,H⟩:=h;omega
theorem fH_E (fr to:Int) (c:List Int):((E cI c).take to.toNat).drop fr.toNat=E cI (fH fr to c):=by simp[fH,E,CG,CJ]
def cmF (fr to:Int) (a b:List Int):Int:=jM (fH fr to a) (fH fr to b)
def bX (fr to:Int) (l:List (List Int)):Bool:=l.all λc=>cK (fH fr to c)
theorem mX (a b:List Int) (fr to:Int) (G:okF fr to a) (H:okF fr to b):Fz F.dR [.agg (cC a),.agg (cC b),.agg (cFd fr to)] (.v (.int .i64 (cmF fr to a b))):=by
 refine fn0 Cd.i_compareFields_k λX=>?_
 repeat' first|simp -dsimp only[go_sem,fH_E,aH,cC,cFd,Af,Ag,Ao,Aq,Ae,Aj,Ad,Al,Ac,Ai,Ap]|apply Br.mk<;>intro h<;>try simp -dsimp only[h]|refine RgK.mk rfl ?_|refine aA.c (by first|exact aBw _ _ (aBq G) ((mE G).trans (mE H).symm)) ?_|refine And.intro (by first|rfl|omega|decide|exact bZ G|exact bZ H|exact⟨rfl,bZ G⟩|exact⟨rfl,bZ H⟩|exact bG G|exact bG H|exact⟨rfl,bG G⟩|exact⟨rfl,bG H⟩|(refine⟨?_,?_⟩<;>(first|rfl|omega|decide|exact bZ G|exact bZ H|exact⟨rfl,bZ G⟩|exact⟨rfl,bZ H⟩|exact bG G|exact bG H|exact⟨rfl,bG G⟩|exact⟨rfl,bG H⟩))|(refine⟨?_,?_,?_⟩<;>(first|rfl|omega|decide|exact bZ G|exact bZ H|exact⟨rfl,bZ G⟩|exact⟨rfl,bZ H⟩|exact bG G|exact bG H|exact⟨rfl,bG G⟩|exact⟨rfl,bG H⟩))|(refine⟨?_,?_,?_,?_⟩<;>(first|rfl|omega|decide|exact bZ G|exact bZ H|exact⟨rfl,bZ G⟩|exact⟨rfl,bZ H⟩|exact bG G|exact bG H|exact⟨rfl,bG G⟩|exact⟨rfl,bG H⟩))) ?_|fail
 all_goals(simp_all [cmF])
theorem aLD (a:List Int) (fr to:Int) (G:okF fr to a):Fz F.tX [.agg (cC a),.agg (cFd fr to)] (.v (.bool (cK (fH fr to a)))):=by
 refine fn0 Cd.i_hasField_k λX=>?_
 repeat' first|simp -dsimp only[go_sem,fH_E,aH,cC,cFd,Af,Ag,Ao,Aq,Ae,Aj,Ad,Al,Ac,Ai,Ap]|apply Br.mk<;>intro h<;>try simp -dsimp only[h]|refine RgK.mk rfl ?_|refine aA.c (by first|exact aEe _ (aBq G)) ?_|refine And.intro (by first|rfl|omega|decide|exact bZ G|exact⟨rfl,bZ G⟩|exact bG G|exact⟨rfl,bG G⟩|(refine⟨?_,?_⟩<;>(first|rfl|omega|decide|exact bZ G|exact⟨rfl,bZ G⟩|exact bG G|exact⟨rfl,bG G⟩))|(refine⟨?_,?_,?_⟩<;>(first|rfl|omega|decide|exact bZ G|exact⟨rfl,bZ G⟩|exact bG G|exact⟨rfl,bG G⟩))|(refine⟨?_,?_,?_,?_⟩<;>(first|rfl|omega|decide|exact bZ G|exact⟨rfl,bZ G⟩|exact bG G|exact⟨rfl,bG G⟩))) ?_|fail
 all_goals(simp_all)
theorem aHD (a:List Int) (fr to:Int) (G:okF fr to a):Fz F.eO [.agg (cC a),.ro (cFd fr to)] (.v (.bool (!cK (fH fr to a)))):=by
 refine fn0 Cd.i_haveField_1_k λX=>?_
 repeat' first|simp -dsimp only[go_sem,cC,cFd,Af,Ag,Ao,Aq,Ae,Aj,Ad,Al,Ac,Ai,Ap]|apply Br.mk<;>intro h<;>try simp -dsimp only[h]|refine aA.c (by first|exact aLD a fr to G) ?_|refine aC ?_|refine aC9 ?_|fail
 all_goals(simp_all)
theorem idxHF (l:List (List Int)) (fr to:Int) (H:∀c,c∈l->okF fr to c) (G:l.length<=1048576):Fz F.mO [.sl 1 (E cC l),.fn F.eO [.ro (cFd fr to)]] (.v (.int .i64 (uW (λc=>!cK (fH fr to c)) l))):=
 aHz Tryz.mixed (k:=1) Cd.ixf_Card_k.o Cd.ixf_Card_k.n Cd.ixf_Card_k.r rfl (λc=>!cK (fH fr to c)) F.eO [.ro (cFd fr to)] rfl (λ_=>rfl) (λ_=>rfl) (λx I=>aHD x fr to (H x I)) G
theorem conHF (l:List (List Int)) (fr to:Int) (H:∀c,c∈l->okF fr to c) (G:l.length<=1048576):Fz F.uG [.sl 1 (E cC l),.fn F.eO [.ro (cFd fr to)]] (.v (.bool (l.any (λc=>!cK (fH fr to c))))):=
 aGJ Tryz.mixed (g:=F.mO) Cd.ctf_Card_k.o Cd.ctf_Card_k.n Cd.ctf_Card_k.r rfl (λc=>!cK (fH fr to c)) F.eO [.ro (cFd fr to)] rfl (idxHF l fr to H G)
theorem aEV (fr to:Int) (l:List (List Int)):(!l.any λc=>!cK (fH fr to c))=bX fr to l:=by
 unfold bX
 induction l with
 |nil=>rfl
 |cons x r ih=>simp only[List.any_cons,BJ,Bool.not_or,Bool.not_not,ih]
theorem sI (l:List (List Int)) (fr to:Int) (H:∀c,c∈l->okF fr to c) (G:l.length<=1048576):Fz F.lL [.sl 1 (E cC l),.agg (cFd fr to)] (.v (.bool (bX fr to l))):=by
 refine fn0 Cd.i_haveField_k λX=>?_
 repeat' first|simp -dsimp only[go_sem,cFd]|apply Br.mk<;>intro h<;>try simp -dsimp only[h]|refine aA.c (by first|exact conHF l fr to H G) ?_|refine aC ?_|refine aC9 ?_|fail
 all_goals(first|(simp_all [aEV];done)|(refine aR ?_;have e:=aEV fr to l;simp_all))
theorem aJR (a d:List Int) (fr to:Int) (G:okF fr to a) (H:okF fr to d):Fz F.fT [.agg (cC a),.ro (cC d),.ro (cFd fr to)] (.v (.bool (cmF fr to a d==0))):=by
 refine fn0 Cd.i_hasEqual_1_k λX=>?_
 repeat' first|simp -dsimp only[go_sem,cC,cFd,Af,Ag,Ao,Aq,Ae,Aj,Ad,Al,Ac,Ai,Ap]|apply Br.mk<;>intro h<;>try simp -dsimp only[h]|refine aA.c (by first|exact mX a d fr to G H) ?_|refine aC ?_|refine aC9 ?_|fail
 all_goals(simp_all)
theorem idxHE (l:List (List Int)) (fr to:Int) (d:List Int) (G:okF fr to d) (I:∀c,c∈l->okF fr to c) (H:l.length<=1048576):Fz F.mO [.sl 1 (E cC l),.fn F.fT [.ro (cC d),.ro (cFd fr to)]] (.v (.int .i64 (uW (λc=>cmF fr to c d==0) l))):=
 aHz Tryz.mixed (k:=1) Cd.ixf_Card_k.o Cd.ixf_Card_k.n Cd.ixf_Card_k.r rfl (λc=>cmF fr to c d==0) F.fT [.ro (cC d),.ro (cFd fr to)] rfl (λ_=>rfl) (λ_=>rfl) (λx J=>aJR x d fr to (I x J) G) H
theorem conHE (l:List (List Int)) (fr to:Int) (d:List Int) (G:okF fr to d) (I:∀c,c∈l->okF fr to c) (H:l.length<=1048576):Fz F.uG [.sl 1 (E cC l),.fn F.fT [.ro (cC d),.ro (cFd fr to)]] (.v (.bool (l.any (λc=>cmF fr to c d==0)))):=
 aGJ Tryz.mixed (g:=F.mO) Cd.ctf_Card_k.o Cd.ctf_Card_k.n Cd.ctf_Card_k.r rfl (λc=>cmF fr to c d==0) F.fT [.ro (cC d),.ro (cFd fr to)] rfl (idxHE l fr to d G I H)
theorem aLE (l:List (List Int)) (d:List Int) (fr to:Int) (G:okF fr to d) (I:∀c,c∈l->okF fr to c) (H:l.length<=1048576):Fz F.tY [.sl 1 (E cC l),.agg (cC d),.agg (cFd fr to)] (.v (.bool (l.any (λc=>cmF fr to c d==0)))):=by
 refine fn0 Cd.i_hasEqual_k λX=>?_
 repeat' first|simp -dsimp only[go_sem,cFd,cC]|apply Br.mk<;>intro h<;>try simp -dsimp only[h]|refine aA.c (by first|exact conHE l fr to d G I H) ?_|refine aC ?_|refine aC9 ?_|fail
 all_goals(simp_all)
theorem aLp (a:List Int) (fr to:Int) (G:okF fr to a):Fz F.yI [.ro (cC a),.agg (cFd fr to)] (.tup [.v (.string (aDE (fH fr to a)).1),.v (.bool (aDE (fH fr to a)).2)]):=by
 refine fn0 Cd.s_l03Key_k λX=>?_
 repeat' first|simp -dsimp only[go_sem,cFd]|apply Br.mk<;>intro h<;>try simp -dsimp only[h]|refine aA.c (by first|exact part a fr to (bG G).1 (bG G).2.1 (bG G).2.2|exact aM8 (fH fr to a) (aBq G)) ?_|refine aC ?_|refine aC9 ?_|fail
 all_goals(simp_all)
def cSt (s:ByteArray):List AV:=[.v (.string s)]
def bV (fr to:Int) (l:List (List Int)):List ByteArray:=l.map λc=>txt (fH fr to c)
def bL (fr to:Int) (l:List (List Int)):Int:=if bC l then(if dW fr to (bK l) then(if bX fr to l then 0 else 8) else 2) else 1
def oN (fr to:Int) (l:List (List Int)):AV:=if bL fr to l=0 then .sl 1 (E cSt (bV fr to l)) else .v (.slice none 0 0)
theorem eG {l:List (List Int)}{fr to:Int} (J:bC l=true) (I:dW fr to (bK l)=true):∀c,c∈l->okF fr to c:=by
 intro c G;simp only[bC,Aw,Az,Bb] at J;simp only[dW,Aw,Bb] at I;obtain⟨F,H⟩:=J.1 c G;simp only[fC,inB,Aw,Az,Bb] at F;have M:l.length≠0:=by intro e;rw[Bv e] at G;cases G
 rw[bK,AC M,←H] at I;obtain⟨O,h2,U⟩:=I;obtain⟨V,Y,_⟩:=F;exact⟨O,h2,U,by omega⟩
theorem aNa {fr to:Int}{l:List (List Int)}{i:Nat} (hi:i<l.length):E cSt ((bV fr to l).take i)++[[.v (.string (txt (fH fr to l[i])))]]=E cSt ((bV fr to l).take (i+1)):=by
 have h2:i<(bV fr to l).length:=by simpa[bV] using hi
 rw[bM h2,aV];simp[E,cSt,bV]
theorem aNc {fr to:Int}{l:List (List Int)}{i:Nat} (hi:i<=l.length):((bV fr to l).take i).length=i:=by simp[bV];omega
theorem aIG (fr to:Int) (l:List (List Int)):(bV fr to l).take l.length=bV fr to l:=Ah (by simp[bV])
attribute [local go_sem] Af Ag Ao Aq Ae Aj Ad Al Ac Ai Ap in
theorem kV (l:List (List Int)) (fr to:Int) (hs:∀x,x∈l->x.length<=1048576) (hl:l.length<=1048576):Fz F.jX [.sl 1 (E cC l),.agg (cFd fr to)] (.tup [oN fr to l,.v (.int .i64 (bL fr to l))]):=by
 cases hd:bC l
 .refine fn0 Cd.s_l07Keys_k λX=>?_
  repeat' first|simp -dsimp only[go_sem,cC,cFd,hd]|apply Br.mk<;>intro h<;>try simp -dsimp only[h]|refine aA.c (by first|exact dC l hs hl) ?_|refine aC ?_|refine aC9 ?_|fail
  all_goals simp[oN,bL,hd]
 cases hf:dW fr to (bK l)
 .refine fn0 Cd.s_l07Keys_k λX=>?_
  repeat' first|simp -dsimp only[go_sem,cC,cFd,hd,hf]|apply Br.mk<;>intro h<;>try simp -dsimp only[h]|refine aA.c (by first|exact dC l hs hl|exact dY l|exact dZ fr to _) ?_|refine aC ?_|refine aC9 ?_|fail
  all_goals simp[oN,bL,hd,hf]
 have ho:=eG hd hf;refine fn0 Cd.s_l07Keys_k λX=>?_
 repeat' first|simp -dsimp only[go_sem,cC,cFd,hd,hf]|apply Br.mk<;>intro h<;>try simp -dsimp only[h]|refine aA.c (by first|exact dC l hs hl|exact dY l|exact dZ fr to _) ?_|refine aC ?_|refine aC9 ?_|fail
 refine aP.at dM (X:={zz:Nat×(Unit) // zz.1<=l.length∧(l.take zz.1).all (λc=>cK (fH fr to c))=true}) (λzz=>[(6,.loc (.t 6 0) 0 zz.1.1),(7,.v (.int .i64 zz.1.1))]) (λzz=>[(.t 6 0,.arr 1 (E cSt ((bV fr to l).take zz.1.1)) false)]) (λzz=>l.length-zz.1.1) ⟨(0,()),by omega,by simp⟩ ?_ ?_
 .simp[Vs.LeL,Vs.look,aB,aQ,aK,Vs.hset,aL,Vs.E]
 .rintro⟨⟨i,_⟩,hi,hg⟩;dsimp only at hi hg;simp -dsimp only[go_sem,cC,cFd];refine Br.mk (λhc=>?_) λhc=>?_
  .have hlt:i<l.length:=Dq;have hw:=aJ hlt hl;have hk:=ho _ (Aa hlt);have hap:=aNa (fr:=fr) (to:=to) hlt;have hkl:=aNc (fr:=fr) (to:=to) (l:=l) (i:=i) (by omega);have hm:(E cC l).getD i []=[.sl 1 (E cI l[i])]:=aW hlt;cases hb:cK (fH fr to l[i])
   .have e1:aDE (fH fr to l[i])=(⟨#[]⟩,false):=by simp[aDE,hb]
    have e2:bX fr to l=false:=iK (p:=λc=>cK (fH fr to c)) hlt hb
    repeat' first|simp -dsimp only[go_sem,hw,hm,e1,cC,cFd]|apply Br.mk<;>intro h<;>try simp -dsimp only[h]|refine aA.c (by first|exact aLp _ fr to hk) ?_|refine aC ?_|refine aC9 ?_|fail
    all_goals first|omega|(refine aR ?_;simp[oN,bL,hd,hf,e2];done)|(simp[oN,bL,hd,hf,e2];done)
   .have e1:aDE (fH fr to l[i])=(txt (fH fr to l[i]),true):=by simp[aDE,hb]
    repeat' first|simp -dsimp only[go_sem,hw,hm,e1,hap,hkl,aH,cC,cFd]|apply Br.mk<;>intro h<;>try simp -dsimp only[h]|refine aA.c (by first|exact aLp _ fr to hk) ?_|refine aC ?_|refine aC9 ?_|fail
    all_goals first|omega|(exact nx (i+1,()) (bH (p:=λc=>cK (fH fr to c)) hlt hg hb))
  .have hge:i=l.length:=by
    have:¬i<l.length:=Dq;omega
   subst hge;simp -dsimp only[go_sem,cC,cFd];have hall:bX fr to l=true:=by simpa[bX] using hg
   have hkl:(E cSt ((bV fr to l).take l.length)).take l.length=E cSt (bV fr to l):=by rw[aIG];exact Ah (by simp[Vs.E,bV])
   have hk2:(E cSt (bV fr to l)).take l.length=E cSt (bV fr to l):=Ah (by simp[Vs.E,bV]);simp[oN,bL,hd,hf,hall,hkl,hk2,aIG]
def bD (fr to:Int) (l:List (List Int)):Nat->List Int
 |0=>[]
 |i+1=>bD fr to l i++(if cmF fr to (l.getD (i+1) []) (l.getD i [])<0 then[((i+1:Nat):Int)] else[])
def stp (fr to:Int) (l:List (List Int)):List Int:=bD fr to l (l.length-1)
def jC (fr to:Int) (l:List (List Int)):Bool:=((stp fr to l).length:Int)==0
theorem aEl (fr to:Int) (l:List (List Int)):∀i,(bD fr to l i).length<=i
 |0=>by simp[bD]
 | i+1=>by
  have:=aEl fr to l i;rw[bD,AX];split<;>simp<;>omega
theorem aND {i n:Nat} (h:i<n-1) (F:n<=1048576):IntKind.i64.wrap (((i+1:Nat):Int)+1)=((i+1+1:Nat):Int):=by rw[aI (by omega) (by omega)];omega
theorem aNC {i n:Nat} (h:i<n-1) (F:n<=1048576):IntKind.i64.wrap (((i+1:Nat):Int)-1)=(i:Int):=by rw[aI (by omega) (by omega)];omega
attribute [local go_sem] Af Ag Ao Aq Ae Aj Ad Al Ac Ai Ap in
theorem steps (l:List (List Int)) (fr to:Int) (ho:∀c,c∈l->okF fr to c) (hl:l.length<=1048576):Fz F.aBk [.sl 1 (E cC l),.agg (cFd fr to)] (.sl 1 (E cI (stp fr to l))):=by
 refine fn0 Cd.i_steps_k λX=>?_;simp -dsimp only[go_sem,cC,cFd];refine⟨⟨by omega,by omega⟩,?_⟩;refine aP.at dM (X:={zz:Nat×(Unit) // zz.1<=l.length-1∧True}) (λzz=>[(5,.loc (.t 5 0) 0 (bD fr to l zz.1.1).length),(6,.v (.int .i64 ((zz.1.1+1:Nat):Int)))]) (λzz=>[(.t 5 0,.arr 1 (E cI (bD fr to l zz.1.1)) false)]) (λzz=>l.length-1-zz.1.1) ⟨(0,()),by omega,trivial⟩ ?_ ?_
 .simp[Vs.LeL,Vs.look,aB,aQ,aK,Vs.hset,aL,Vs.E,bD]
 .rintro⟨⟨i,_⟩,hi,hg⟩;dsimp only at hi hg;simp -dsimp only[go_sem,cC,cFd];refine Br.mk (λhc=>?_) λhc=>?_
  .have hlt:i<l.length-1:=Dq;have hw:=aJ hlt (by omega);have hl1:i+1<l.length:=by omega
   have hl0:i<l.length:=by omega
   have hk1:=ho _ (Aa hl1);have hk0:=ho _ (Aa hl0);have hm1:(E cC l).getD (i+1) []=[.sl 1 (E cI l[i+1])]:=aW hl1;have hm0:(E cC l).getD i []=[.sl 1 (E cI l[i])]:=aW hl0;have hw2:=aND hlt hl;have hw3:=aNC hlt hl;have hsl:=aEl fr to l i;have g1:l.getD (i+1) []=l[i+1]:=by simp[List.getD,hl1]
   have g0:l.getD i []=l[i]:=by simp[List.getD,hl0]
   by_cases hz:cmF fr to l[i+1] l[i]<0
   .have e1:decide (cmF fr to l[i+1] l[i]<0)=true:=A9 hz;have hs:bD fr to l (i+1)=bD fr to l i++[((i+1:Nat):Int)]:=by rw[bD,g1,g0,AP hz]
    have hap:E cI (bD fr to l i)++[[.v (.int .i64 ((i+1:Nat):Int))]]=E cI (bD fr to l (i+1)):=by rw[hs,aV];rfl
    have hln:(bD fr to l (i+1)).length=(bD fr to l i).length+1:=by rw[hs];simp
    repeat' first|simp -dsimp only[go_sem,hw2,hw3,hm1,hm0,e1,hap,aH,cC,cFd]|apply Br.mk<;>intro h<;>try simp -dsimp only[h]|refine aA.c (by first|exact mX _ _ fr to hk1 hk0) ?_|refine aC ?_|refine aC9 ?_|fail
    all_goals first|omega|(exact nx (i+1,()) trivial (h2:=by simp[Vs.LeL,Vs.look,aB,aQ,aK,Vs.hset,aL,hln]))
   .have e1:decide (cmF fr to l[i+1] l[i]<0)=false:=AQ hz;have hs:bD fr to l (i+1)=bD fr to l i:=by rw[bD,g1,g0,AC hz];simp
    repeat' first|simp -dsimp only[go_sem,hw2,hw3,hm1,hm0,e1,aH,cC,cFd]|apply Br.mk<;>intro h<;>try simp -dsimp only[h]|refine aA.c (by first|exact mX _ _ fr to hk1 hk0) ?_|refine aC ?_|refine aC9 ?_|fail
    all_goals first|omega|(exact nx (i+1,()) trivial (h2:=by simp[Vs.LeL,Vs.look,aB,aQ,aK,Vs.hset,aL,hs]))
  .have hge:i=l.length-1:=by
    have:¬i<l.length-1:=Dq;omega
   subst hge;simp -dsimp only[go_sem,cC,cFd];exact⟨⟨_,_,rfl,rfl⟩,by simp⟩
theorem aY (l:List (List Int)) (fr to:Int) (H:∀c,c∈l->okF fr to c) (G:l.length<=1048576):Fz F.gD [.sl 1 (E cC l),.agg (cFd fr to)] (.v (.bool (jC fr to l))):=by
 refine fn0 Cd.i_isAscending_k λX=>?_
 repeat' first|simp -dsimp only[go_sem,cFd,aH]|apply Br.mk<;>intro h<;>try simp -dsimp only[h]|refine aA.c (by first|exact steps l fr to H G) ?_|refine aC ?_|refine aC9 ?_|fail
 all_goals(simp_all [jC])
end
end Go.Proofs.YtklmdppgonhflaaGreatDoor
