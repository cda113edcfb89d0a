/- Offices: sizes, copies, comparisons. -/
import Derived.Test.YtkgeiaideklmoaaGreatZwK
import Derived.Test.YtkgeiaideklmoaaGreatZuS
import Derived.Test.YtkgeiaideklmoaaGreatZuR
import Derived.Test.YtkgeiaideklmoaaGreatVtR
set_option linter.all false
set_option maxHeartbeats 8000000
namespace Go.Proofs.YtkgeiaideklmoaaGreat
open Go.Vs
section
variable [Vs.Envs]
attribute [local irreducible] Vs.Fn
def cFd (fr to:Int):List AV:=[.v (.int .i64 fr),.v (.int .i64 to)]
def bJ (l:List (List Int)):Int:=if l.length=0 then 20 else((l.getD 0 []).length:Int)
theorem eY (l:List (List Int)):Fz F.jW [.sl 1 (E cC l)] (.v (.int .i64 (bJ l))):=by
 refine fn0 Cd.s_l07Width_k λX=>?_;simp -dsimp only[go_sem,cC];by_cases h0:l.length=0
 .have H:((l.length:Int)==0)=true:=BO.2 (by omega)
  repeat' first|simp -dsimp only[go_sem,H,cC]|apply Br.mk<;>intro h<;>try simp -dsimp only[h]|refine aC ?_|fail
  all_goals simp[bJ,h0]
 .have H:((l.length:Int)==0)=false:=AB.2 (by omega);have I:0<l.length:=by omega
  have J:(E cC l).getD 0 []=[.sl 1 (E cI l[0])]:=aN I;have L:l.getD 0 []=l[0]:=by simp[List.getD,I]
  repeat' first|simp -dsimp only[go_sem,H,J,cC]|apply Br.mk<;>intro h<;>try simp -dsimp only[h]|refine aC ?_|fail
  all_goals simp_all [bJ]
theorem iC (l:List (List Int)):Fz F.gD [.sl 1 (E cC l)] (.v (.int .i64 (bJ l))):=by
 refine fn0 Cd.i_deckColumns_k λX=>?_;simp -dsimp only[go_sem,cC];by_cases h0:l.length=0
 .have H:((l.length:Int)==0)=true:=BO.2 (by omega)
  repeat' first|simp -dsimp only[go_sem,H,cC]|apply Br.mk<;>intro h<;>try simp -dsimp only[h]|refine aB.c (by first|exact pO l[0]) ?_|refine aC ?_|fail
  all_goals simp[bJ,h0]
 .have H:((l.length:Int)==0)=false:=AB.2 (by omega);have I:0<l.length:=by omega
  have J:(E cC l).getD 0 []=[.sl 1 (E cI l[0])]:=aN I;have L:l.getD 0 []=l[0]:=by simp[List.getD,I]
  repeat' first|simp -dsimp only[go_sem,H,J,cC]|apply Br.mk<;>intro h<;>try simp -dsimp only[h]|refine aB.c (by first|exact pO l[0]) ?_|refine aC ?_|fail
  all_goals simp_all [bJ]
def lJ (fr to:Int) (c:List Int):Int×Bool:=xE ((c.take to.toNat).drop fr.toNat).dropLast (((c.take to.toNat).drop fr.toNat).getLastD 0)
def okP (fr to:Int) (c:List Int):Prop:=0<=fr∧fr<to∧to<=c.length∧to-fr<=12∧c.length<=20∧∀x,x∈c->0<=x∧x<=4095
theorem aFh {fr to:Int}{c:List Int} (h:okP fr to c):∃u x,(c.take to.toNat).drop fr.toNat=u++[x]∧u.length+1<=12∧0<=x∧x<=4095∧lJ fr to c=xE u x:=by
 obtain⟨h0,O,h2,U,Y,J⟩:=h;have F:((c.take to.toNat).drop fr.toNat).length=to.toNat-fr.toNat:=by simp;omega
 have H:(c.take to.toNat).drop fr.toNat≠[]:=by intro e;rw[e] at F;simp at F;omega
 have L:=List.dropLast_concat_getLast H;have I:=J (((c.take to.toNat).drop fr.toNat).getLast H) (CE (CZ (List.getLast_mem H)));refine⟨_,_,L.symm,?_,I.1,I.2,?_⟩
 .rw[List.length_dropLast,F];omega
 .unfold lJ;rw[List.getLastD_eq_getLast?,List.getLast?_eq_some_getLast H];rfl
theorem aIx {fr to:Int}{c:List Int} (h:okP fr to c):Fz F.pE [.agg (cC c),.agg (cFd fr to)] (.tup [.v (.int .i64 (lJ fr to c).1),.v (.bool (lJ fr to c).2)]):=by
 obtain⟨u,x,I,J,_,_,H⟩:=aFh h;obtain⟨h0,L,h2,O,U,Y⟩:=h;rw[H];exact aJ4 c fr to u x h0 (by omega) h2 I J
theorem zS {fr to:Int}{c:List Int} (h:okP fr to c):Fz F.mO [.sl 1 (E cI ((c.take to.toNat).drop fr.toNat))] (.tup [.v (.int .i64 (lJ fr to c).1),.v (.bool (lJ fr to c).2)]):=by
 obtain⟨u,x,L,O,H,I,J⟩:=aFh h;rw[J,L];exact aIJ u x H I O
theorem aJY {fr to:Int}{c:List Int} (h:okP fr to c):Fz F.oF [.ro (cC c),.agg (cFd fr to)] (.sl 1 (E cI ((c.take to.toNat).drop fr.toNat))):=by
 obtain⟨h0,H,h2,I,J,L⟩:=h;exact part c fr to h0 (by omega) h2
end
section
variable [Vs.Envs]
attribute [local irreducible] Vs.Fn bL aP bM bP l03 chB rk cd3
attribute [local go_sem] Af Ag Ao Aq Ae Aj Ad Al Ac Ai Ap
theorem vC {l:List Int} (h:dB l=true) {i:Nat} (hi:i<l.length):0<=rk l[i]:=by
 simp only[dB,Az,Bb] at h;exact h _ (Aa hi)
theorem aHh {l:List Int}{i:Nat} (hi:i<l.length):E cU ((l.map chI).take i)++[[.v (.int .u8 (chI l[i]))]]=E cU ((l.map chI).take (i+1)):=by
 have h2:i<(l.map chI).length:=by simpa using hi
 rw[aX h2,bG];simp[E,cU]
theorem aHi {l:List Int}{i:Nat} (hi:i<=l.length):((l.map chI).take i).length=i:=by simp;omega
theorem aKR (m:Int):(chB (rk m).toNat:Int)=chI m:=rfl
theorem x9 (l:List Int):aCh ((l.map chI).take l.length)=txt l:=by unfold txt;rw[Ah (by simp)]
attribute [local irreducible] chI
theorem textOf (l:List Int) (hl:l.length<=1048576) (hh:dB l=true):Fz F.xN [.sl 1 (E cI l)] (.v (.string (txt l))):=by
 refine fn0 Cd.i_textOf_k λX=>?_;simp -dsimp only[go_sem];refine⟨⟨by omega,by omega⟩,?_⟩;refine aM.at dM (X:={zz:Nat×(Unit) // zz.1<=l.length∧True}) (λzz=>[(3,.loc (.t 3 0) 0 zz.1.1),(9,.v (.int .i64 zz.1.1))]) (λzz=>[(.t 3 0,.arr 1 (E cU ((l.map chI).take zz.1.1)) false)]) (λzz=>l.length-zz.1.1) ⟨(0,()),by omega,trivial⟩ ?_ ?_
 .simp[Vs.LeL,Vs.look,aA,aS,aJ,Vs.hset,aK,Vs.E]
 .rintro⟨⟨i,_⟩,hi,hg⟩;dsimp only at hi hg;simp -dsimp only[go_sem,sG,x9];refine Br.mk (λhc=>?_) λhc=>?_
  .have hlt:i<l.length:=Dq;have hw:=aG hlt hl;have hr:=vC hh hlt;have hr2:=(aCk l[i]).2;have hap:=aHh hlt;have htl:=aHi (l:=l) (i:=i) (by omega)
   repeat' first|simp -dsimp only[go_sem,hw,dI hlt,chL,chS,aKR,hap,htl,aH]|apply Br.mk<;>intro h<;>try simp -dsimp only[h]|refine aB.c (by first|exact aCp _) ?_|refine aC ?_|fail
   all_goals first|omega|(exact nx (i+1,()) trivial)
  .have hge:i=l.length:=by
    have:¬i<l.length:=Dq;omega
   subst hge;simp -dsimp only[go_sem,sG,x9];have ht:(E cU ((l.map chI).take l.length)).take l.length=E cU ((l.map chI).take l.length):=Ah (by simp[Vs.E]);simp[ht,sG,x9]
def aCG (l:List Int):ByteArray×Bool:=if dB l then(txt l,true) else(⟨#[]⟩,false)
theorem aGT {l:List Int}{i:Nat} (hi:i<l.length) (h:dB (l.take i)=true) (h2:0<=rk l[i]):dB (l.take (i+1))=true:=by
 unfold dB at h⊢;exact bD (p:=λm=>decide (0<=rk m)) hi h (by simpa using h2)
theorem aDK {l:List Int}{i:Nat} (hi:i<l.length) (h2:¬0<=rk l[i]):dB l=false:=by
 unfold dB;exact gU (p:=λm=>decide (0<=rk m)) hi (by simpa using h2)
theorem aLU (l:List Int) (hl:l.length<=1048576):Fz F.uM [.sl 1 (E cI l)] (.tup [.v (.string (aCG l).1),.v (.bool (aCG l).2)]):=by
 refine fn0 Cd.s_l03Text_k λX=>?_;simp -dsimp only[go_sem];refine⟨⟨by omega,by omega⟩,?_⟩;refine aM.at dM (X:={zz:Nat×(Unit) // zz.1<=l.length∧dB (l.take zz.1)=true}) (λzz=>[(4,.loc (.t 4 0) 0 zz.1.1),(5,.v (.int .i64 zz.1.1))]) (λzz=>[(.t 4 0,.arr 1 (E cU ((l.map chI).take zz.1.1)) false)]) (λzz=>l.length-zz.1.1) ⟨(0,()),by omega,by simp[dB]⟩ ?_ ?_
 .simp[Vs.LeL,Vs.look,aA,aS,aJ,Vs.hset,aK,Vs.E]
 .rintro⟨⟨i,_⟩,hi,hg⟩;dsimp only at hi hg;simp -dsimp only[go_sem,sG,x9];refine Br.mk (λhc=>?_) λhc=>?_
  .have hlt:i<l.length:=Dq;have hw:=aG hlt hl;have hr2:=(aCk l[i]).2;have hap:=aHh hlt;have htl:=aHi (l:=l) (i:=i) (by omega);by_cases hz:0<=rk l[i]
   .have e1:aFz l[i]=(chI l[i],true):=by simp[aFz,hz]
    repeat' first|simp -dsimp only[go_sem,hw,dI hlt,e1,hap,htl,aH]|apply Br.mk<;>intro h<;>try simp -dsimp only[h]|refine aB.c (by first|exact aHN _) ?_|refine aC ?_|fail
    all_goals first|omega|(exact nx (i+1,()) (aGT hlt hg hz))
   .have e1:aFz l[i]=(0,false):=by simp[aFz,hz]
    repeat' first|simp -dsimp only[go_sem,hw,dI hlt,e1]|apply Br.mk<;>intro h<;>try simp -dsimp only[h]|refine aB.c (by first|exact aHN _) ?_|refine aC ?_|fail
    all_goals first|omega|(refine bK ?_;simp[aCG,aDK hlt hz];done)|(simp[aCG,aDK hlt hz];done)
  .have hge:i=l.length:=by
    have:¬i<l.length:=Dq;omega
   subst hge;simp -dsimp only[go_sem,sG,x9];have hh:dB l=true:=by simpa using hg
   have ht:(E cU ((l.map chI).take l.length)).take l.length=E cU ((l.map chI).take l.length):=Ah (by simp[Vs.E]);simp[ht,sG,x9,aCG,hh]
def jA:List Int->List Int->Int
 |x::a,y::b=>if rk x<rk y then -1 else if rk x>rk y then 1 else jA a b
 |_,_=>0
theorem aDS {a b:List Int}{i:Nat} (F:i<a.length) (H:i<b.length):jA (a.drop i) (b.drop i)=if rk a[i]<rk b[i] then -1 else if rk a[i]>rk b[i] then 1 else jA (a.drop (i+1)) (b.drop (i+1)):=by
 rw[Ci F,Ci H,jA]
theorem aAP (a b:List Int) (hl:a.length<=1048576) (hab:a.length=b.length):Fz F.iP [.sl 1 (E cI a),.sl 1 (E cI b)] (.v (.int .i64 (jA a b))):=by
 refine fn0 Cd.i_compareHoles_k λX=>?_;simp -dsimp only[go_sem];refine aM.at dM (X:={zz:Nat×(Unit) // zz.1<=a.length∧jA (a.drop zz.1) (b.drop zz.1)=jA a b}) (λzz=>[(10,.v (.int .i64 zz.1.1))]) (λzz=>[]) (λzz=>a.length-zz.1.1) ⟨(0,()),by omega,by simp⟩ ?_ ?_
 .exact le0
 .rintro⟨⟨i,_⟩,hi,hg⟩;dsimp only at hi hg;simp -dsimp only[go_sem];refine Br.mk (λhc=>?_) λhc=>?_
  .have hlt:i<a.length:=Dq;have hw:=aG hlt hl;have hlb:i<b.length:=by omega
   rw[aDS hlt hlb] at hg;by_cases h1:rk a[i]<rk b[i]
   .have e1:decide (rk a[i]<rk b[i])=true:=A9 h1;rw[AP h1] at hg
    repeat' first|simp -dsimp only[go_sem,hw,dI hlt,dI hlb,e1]|apply Br.mk<;>intro h<;>try simp -dsimp only[h]|refine aB.c (by first|exact aCp _) ?_|refine aC ?_|fail
    all_goals first|omega|(refine bK ?_;simp[←hg];done)|(simp[←hg];done)
   .have e1:decide (rk a[i]<rk b[i])=false:=AQ h1;rw[AC h1] at hg;by_cases h2:rk a[i]>rk b[i]
    .have e2:decide (rk a[i]>rk b[i])=true:=A9 h2;rw[AP h2] at hg
     repeat' first|simp -dsimp only[go_sem,hw,dI hlt,dI hlb,e1,e2]|apply Br.mk<;>intro h<;>try simp -dsimp only[h]|refine aB.c (by first|exact aCp _) ?_|refine aC ?_|fail
     all_goals first|omega|(refine bK ?_;simp[←hg];done)|(simp[←hg];done)
    .have e2:decide (rk a[i]>rk b[i])=false:=AQ h2;rw[AC h2] at hg
     repeat' first|simp -dsimp only[go_sem,hw,dI hlt,dI hlb,e1,e2]|apply Br.mk<;>intro h<;>try simp -dsimp only[h]|refine aB.c (by first|exact aCp _) ?_|refine aC ?_|fail
     all_goals first|omega|(exact nx (i+1,()) hg)
  .have hge:i=a.length:=by
    have:¬i<a.length:=Dq;omega
   subst hge;simp -dsimp only[go_sem]
   have hg2:jA a b=0:=by
    rw[←hg,De];cases b.drop a.length<;>rfl
   simp[hg2]
theorem aCd (l:List Int):(txt l).size=l.length:=by simp[txt,aCh,ByteArray.size]
theorem aD6 {l:List Int} (h:dB l=true) {i:Nat} (hi:i<l.length):((txt l).data.toList.getD i 0).toNat=chB (rk l[i]).toNat:=by
 have h2:=aNj (rk l[i]).toNat (by have:=(aCk l[i]).2;omega);have F:=aKR l[i];simp only[txt,aCh,A8,Cv,Ba hi,AU,Cc,←F,BR];rw[UInt8.toNat_ofNat',Nat.mod_eq_of_lt (by simpa using h2)]
theorem vV (a b:List Int) (hl:a.length<=1048576) (hab:a.length=b.length) (ha:dB a=true) (hb:dB b=true):Fz F.fM [.v (.string (txt a)),.v (.string (txt b))] (.v (.int .i64 (jA a b))):=by
 have hsa:=aCd a;have hsb:=aCd b;refine fn0 Cd.s_l03Compare_k λX=>?_;simp -dsimp only[go_sem];refine aM.at dM (X:={zz:Nat×(Unit) // zz.1<=a.length∧jA (a.drop zz.1) (b.drop zz.1)=jA a b}) (λzz=>[(5,.v (.int .i64 zz.1.1))]) (λzz=>[]) (λzz=>a.length-zz.1.1) ⟨(0,()),by omega,by simp⟩ ?_ ?_
 .exact le0
 .rintro⟨⟨i,_⟩,hi,hg⟩;dsimp only at hi hg;simp -dsimp only[go_sem,hsa,hsb];refine Br.mk (λhc=>?_) λhc=>?_
  .have hlt:i<a.length:=Dq;have hw:=aG hlt hl;have hlb:i<b.length:=by omega
   rw[aDS hlt hlb] at hg;have ra:=vC ha hlt;have rb:=vC hb hlb;have ra2:=(aCk a[i]).2;have rb2:=(aCk b[i]).2;have ta:=aD6 ha hlt;have tb:=aD6 hb hlb;have na:((rk a[i]).toNat:Int)=rk a[i]:=by omega
   have nb:((rk b[i]).toNat:Int)=rk b[i]:=by omega
   by_cases h1:rk a[i]<rk b[i]
   .have e1:decide (rk a[i]<rk b[i])=true:=A9 h1;rw[AP h1] at hg
    repeat' first|simp -dsimp only[go_sem,hw,dI hlt,dI hlb,e1,hsa,hsb,ta,tb,na,nb]|apply Br.mk<;>intro h<;>try simp -dsimp only[h]|refine aB.c (by first|exact aEv _ (by omega)) ?_|refine aC ?_|fail
    all_goals first|omega|(refine bK ?_;simp[←hg];done)|(simp[←hg];done)
   .have e1:decide (rk a[i]<rk b[i])=false:=AQ h1;rw[AC h1] at hg;by_cases h2:rk a[i]>rk b[i]
    .have e2:decide (rk a[i]>rk b[i])=true:=A9 h2;rw[AP h2] at hg
     repeat' first|simp -dsimp only[go_sem,hw,dI hlt,dI hlb,e1,e2,hsa,hsb,ta,tb,na,nb]|apply Br.mk<;>intro h<;>try simp -dsimp only[h]|refine aB.c (by first|exact aEv _ (by omega)) ?_|refine aC ?_|fail
     all_goals first|omega|(refine bK ?_;simp[←hg];done)|(simp[←hg];done)
    .have e2:decide (rk a[i]>rk b[i])=false:=AQ h2;rw[AC h2] at hg
     repeat' first|simp -dsimp only[go_sem,hw,dI hlt,dI hlb,e1,e2,hsa,hsb,ta,tb,na,nb]|apply Br.mk<;>intro h<;>try simp -dsimp only[h]|refine aB.c (by first|exact aEv _ (by omega)) ?_|refine aC ?_|fail
     all_goals first|omega|(exact nx (i+1,()) hg)
  .have hge:i=a.length:=by
    have:¬i<a.length:=Dq;omega
   subst hge;simp -dsimp only[go_sem,hsa,hsb]
   have hg2:jA a b=0:=by
    rw[←hg,De];cases b.drop a.length<;>rfl
   simp[hg2]
end
section
variable [Vs.Envs]
attribute [local irreducible] Vs.Fn bL aP bM bP l03 chB rk cd3 chI
def fH (fr to:Int) (c:List Int):List Int:=(c.take to.toNat).drop fr.toNat
def okF (fr to:Int) (c:List Int):Prop:=0<=fr∧fr<to∧to<=c.length∧c.length<=20
theorem lF {fr to:Int}{c:List Int} (h:okF fr to c):(fH fr to c).length=to.toNat-fr.toNat:=by
 obtain⟨h0,F,h2,H⟩:=h;simp[fH];omega
theorem aAN {fr to:Int}{c:List Int} (h:okF fr to c):(fH fr to c).length<=1048576:=by
 have:=lF h;obtain⟨h0,F,h2,H⟩:=h;omega
theorem bZ {fr to:Int}{c:List Int} (h:okF fr to c):0<=fr∧fr<=to∧to<=((E cI c).length:Int):=by
 obtain⟨h0,F,h2,H⟩:=h;rw[aH];omega
theorem bB {fr to:Int}{c:List Int} (h:okF fr to c):0<=fr∧fr<=to∧to<=(c.length:Int):=by
 obtain⟨h0,F,h2,H⟩:=h;omega
theorem fH_E (fr to:Int) (c:List Int):((E cI c).take to.toNat).drop fr.toNat=E cI (fH fr to c):=by simp[fH,E,CG,CJ]
def cmF (fr to:Int) (a b:List Int):Int:=jA (fH fr to a) (fH fr to b)
def bU (fr to:Int) (l:List (List Int)):Bool:=l.all λc=>dB (fH fr to c)
theorem lV (a b:List Int) (fr to:Int) (H:okF fr to a) (I:okF fr to b):Fz F.dU [.agg (cC a),.agg (cC b),.agg (cFd fr to)] (.v (.int .i64 (cmF fr to a b))):=by
 refine fn0 Cd.i_compareFields_k λX=>?_
 repeat' first|simp -dsimp only[go_sem,fH_E,aH,cC,cFd,Af,Ag,Ao,Aq,Ae,Aj,Ad,Al,Ac,Ai,Ap]|apply Br.mk<;>intro h<;>try simp -dsimp only[h]|refine RgK.mk rfl ?_|refine aB.c (by first|exact aAP _ _ (aAN H) ((lF H).trans (lF I).symm)) ?_|refine And.intro (by first|rfl|omega|decide|exact bZ H|exact bZ I|exact⟨rfl,bZ H⟩|exact⟨rfl,bZ I⟩|exact bB H|exact bB I|exact⟨rfl,bB H⟩|exact⟨rfl,bB I⟩|(refine⟨?_,?_⟩<;>(first|rfl|omega|decide|exact bZ H|exact bZ I|exact⟨rfl,bZ H⟩|exact⟨rfl,bZ I⟩|exact bB H|exact bB I|exact⟨rfl,bB H⟩|exact⟨rfl,bB I⟩))|(refine⟨?_,?_,?_⟩<;>(first|rfl|omega|decide|exact bZ H|exact bZ I|exact⟨rfl,bZ H⟩|exact⟨rfl,bZ I⟩|exact bB H|exact bB I|exact⟨rfl,bB H⟩|exact⟨rfl,bB I⟩))|(refine⟨?_,?_,?_,?_⟩<;>(first|rfl|omega|decide|exact bZ H|exact bZ I|exact⟨rfl,bZ H⟩|exact⟨rfl,bZ I⟩|exact bB H|exact bB I|exact⟨rfl,bB H⟩|exact⟨rfl,bB I⟩))) ?_|fail
 all_goals(simp_all [cmF])
theorem aKu (a:List Int) (fr to:Int) (H:okF fr to a):Fz F.sZ [.agg (cC a),.agg (cFd fr to)] (.v (.bool (dB (fH fr to a)))):=by
 refine fn0 Cd.i_hasField_k λX=>?_
 repeat' first|simp -dsimp only[go_sem,fH_E,aH,cC,cFd,Af,Ag,Ao,Aq,Ae,Aj,Ad,Al,Ac,Ai,Ap]|apply Br.mk<;>intro h<;>try simp -dsimp only[h]|refine RgK.mk rfl ?_|refine aB.c (by first|exact aDk _ (aAN H)) ?_|refine And.intro (by first|rfl|omega|decide|exact bZ H|exact⟨rfl,bZ H⟩|exact bB H|exact⟨rfl,bB H⟩|(refine⟨?_,?_⟩<;>(first|rfl|omega|decide|exact bZ H|exact⟨rfl,bZ H⟩|exact bB H|exact⟨rfl,bB H⟩))|(refine⟨?_,?_,?_⟩<;>(first|rfl|omega|decide|exact bZ H|exact⟨rfl,bZ H⟩|exact bB H|exact⟨rfl,bB H⟩))|(refine⟨?_,?_,?_,?_⟩<;>(first|rfl|omega|decide|exact bZ H|exact⟨rfl,bZ H⟩|exact bB H|exact⟨rfl,bB H⟩))) ?_|fail
 all_goals(simp_all)
theorem aGS (a:List Int) (fr to:Int) (H:okF fr to a):Fz F.eO [.agg (cC a),.ro (cFd fr to)] (.v (.bool (!dB (fH fr to a)))):=by
 refine fn0 Cd.i_haveField_1_k λX=>?_
 repeat' first|simp -dsimp only[go_sem,cC,cFd,Af,Ag,Ao,Aq,Ae,Aj,Ad,Al,Ac,Ai,Ap]|apply Br.mk<;>intro h<;>try simp -dsimp only[h]|refine aB.c (by first|exact aKu a fr to H) ?_|refine aC ?_|fail
 all_goals(simp_all)
theorem idxHF (l:List (List Int)) (fr to:Int) (I:∀c,c∈l->okF fr to c) (H:l.length<=1048576):Fz F.j6 [.sl 1 (E cC l),.fn F.eO [.ro (cFd fr to)]] (.v (.int .i64 (qD (λc=>!dB (fH fr to c)) l))):=
 aEy Tryz.mixed (k:=1) Cd.ixf_Card_k.o Cd.ixf_Card_k.n Cd.ixf_Card_k.r rfl (λc=>!dB (fH fr to c)) F.eO [.ro (cFd fr to)] rfl (λ_=>rfl) (λ_=>rfl) (λx J=>aGS x fr to (I x J)) H
theorem conHF (l:List (List Int)) (fr to:Int) (I:∀c,c∈l->okF fr to c) (H:l.length<=1048576):Fz F.tK [.sl 1 (E cC l),.fn F.eO [.ro (cFd fr to)]] (.v (.bool (l.any (λc=>!dB (fH fr to c))))):=
 aFV Tryz.mixed (g:=F.j6) Cd.ctf_Card_k.o Cd.ctf_Card_k.n Cd.ctf_Card_k.r rfl (λc=>!dB (fH fr to c)) F.eO [.ro (cFd fr to)] rfl (idxHF l fr to I H)
theorem aD1 (fr to:Int) (l:List (List Int)):(!l.any λc=>!dB (fH fr to c))=bU fr to l:=by
 unfold bU
 induction l with
 |nil=>rfl
 |cons x r ih=>simp only[List.any_cons,BJ,Bool.not_or,Bool.not_not,ih]
theorem pI (l:List (List Int)) (fr to:Int) (I:∀c,c∈l->okF fr to c) (H:l.length<=1048576):Fz F.kG [.sl 1 (E cC l),.agg (cFd fr to)] (.v (.bool (bU fr to l))):=by
 refine fn0 Cd.i_haveField_k λX=>?_
 repeat' first|simp -dsimp only[go_sem,cFd]|apply Br.mk<;>intro h<;>try simp -dsimp only[h]|refine aB.c (by first|exact conHF l fr to I H) ?_|refine aC ?_|fail
 all_goals(first|(simp_all [aD1];done)|(refine bK ?_;have e:=aD1 fr to l;simp_all))
theorem aIO (a d:List Int) (fr to:Int) (H:okF fr to a) (I:okF fr to d):Fz F.fP [.agg (cC a),.ro (cC d),.ro (cFd fr to)] (.v (.bool (cmF fr to a d==0))):=by
 refine fn0 Cd.i_hasEqual_1_k λX=>?_
 repeat' first|simp -dsimp only[go_sem,cC,cFd,Af,Ag,Ao,Aq,Ae,Aj,Ad,Al,Ac,Ai,Ap]|apply Br.mk<;>intro h<;>try simp -dsimp only[h]|refine aB.c (by first|exact lV a d fr to H I) ?_|refine aC ?_|fail
 all_goals(simp_all)
theorem idxHE (l:List (List Int)) (fr to:Int) (d:List Int) (H:okF fr to d) (J:∀c,c∈l->okF fr to c) (I:l.length<=1048576):Fz F.j6 [.sl 1 (E cC l),.fn F.fP [.ro (cC d),.ro (cFd fr to)]] (.v (.int .i64 (qD (λc=>cmF fr to c d==0) l))):=
 aEy Tryz.mixed (k:=1) Cd.ixf_Card_k.o Cd.ixf_Card_k.n Cd.ixf_Card_k.r rfl (λc=>cmF fr to c d==0) F.fP [.ro (cC d),.ro (cFd fr to)] rfl (λ_=>rfl) (λ_=>rfl) (λx L=>aIO x d fr to (J x L) H) I
theorem conHE (l:List (List Int)) (fr to:Int) (d:List Int) (H:okF fr to d) (J:∀c,c∈l->okF fr to c) (I:l.length<=1048576):Fz F.tK [.sl 1 (E cC l),.fn F.fP [.ro (cC d),.ro (cFd fr to)]] (.v (.bool (l.any (λc=>cmF fr to c d==0)))):=
 aFV Tryz.mixed (g:=F.j6) Cd.ctf_Card_k.o Cd.ctf_Card_k.n Cd.ctf_Card_k.r rfl (λc=>cmF fr to c d==0) F.fP [.ro (cC d),.ro (cFd fr to)] rfl (idxHE l fr to d H J I)
theorem aKv (l:List (List Int)) (d:List Int) (fr to:Int) (H:okF fr to d) (J:∀c,c∈l->okF fr to c) (I:l.length<=1048576):Fz F.tC [.sl 1 (E cC l),.agg (cC d),.agg (cFd fr to)] (.v (.bool (l.any (λc=>cmF fr to c d==0)))):=by
 refine fn0 Cd.i_hasEqual_k λX=>?_
 repeat' first|simp -dsimp only[go_sem,cFd,cC]|apply Br.mk<;>intro h<;>try simp -dsimp only[h]|refine aB.c (by first|exact conHE l fr to d H J I) ?_|refine aC ?_|fail
 all_goals(simp_all)
theorem aKl (a:List Int) (fr to:Int) (H:okF fr to a):Fz F.wX [.ro (cC a),.agg (cFd fr to)] (.tup [.v (.string (aCG (fH fr to a)).1),.v (.bool (aCG (fH fr to a)).2)]):=by
 refine fn0 Cd.s_l03Key_k λX=>?_
 repeat' first|simp -dsimp only[go_sem,cFd]|apply Br.mk<;>intro h<;>try simp -dsimp only[h]|refine aB.c (by first|exact part a fr to (bB H).1 (bB H).2.1 (bB H).2.2|exact aLU (fH fr to a) (aAN H)) ?_|refine aC ?_|fail
 all_goals(simp_all)
def cSt (s:ByteArray):List AV:=[.v (.string s)]
def bR (fr to:Int) (l:List (List Int)):List ByteArray:=l.map λc=>txt (fH fr to c)
def aZ (fr to:Int) (l:List (List Int)):Int:=if bE l then(if dX fr to (bJ l) then(if bU fr to l then 0 else 8) else 2) else 1
def nN (fr to:Int) (l:List (List Int)):AV:=if aZ fr to l=0 then .sl 1 (E cSt (bR fr to l)) else .v (.slice none 0 0)
theorem dE {l:List (List Int)}{fr to:Int} (L:bE l=true) (J:dX fr to (bJ l)=true):∀c,c∈l->okF fr to c:=by
 intro c H;simp only[bE,Aw,Az,Bb] at L;simp only[dX,Aw,Bb] at J;obtain⟨F,I⟩:=L.1 c H;simp only[iH,inB,Aw,Az,Bb] at F;have h0:l.length≠0:=by intro e;rw[Bv e] at H;cases H
 rw[bJ,AC h0,←I] at J;obtain⟨O,h2,U⟩:=J;obtain⟨Y,Z,_⟩:=F;exact⟨O,h2,U,by omega⟩
theorem aLW {fr to:Int}{l:List (List Int)}{i:Nat} (hi:i<l.length):E cSt ((bR fr to l).take i)++[[.v (.string (txt (fH fr to l[i])))]]=E cSt ((bR fr to l).take (i+1)):=by
 have h2:i<(bR fr to l).length:=by simpa[bR] using hi
 rw[aX h2,bG];simp[E,cSt,bR]
theorem aLY {fr to:Int}{l:List (List Int)}{i:Nat} (hi:i<=l.length):((bR fr to l).take i).length=i:=by simp[bR];omega
theorem aHP (fr to:Int) (l:List (List Int)):(bR fr to l).take l.length=bR fr to l:=Ah (by simp[bR])
attribute [local go_sem] Af Ag Ao Aq Ae Aj Ad Al Ac Ai Ap in
theorem jR (l:List (List Int)) (fr to:Int) (hs:∀x,x∈l->x.length<=1048576) (hl:l.length<=1048576):Fz F.jG [.sl 1 (E cC l),.agg (cFd fr to)] (.tup [nN fr to l,.v (.int .i64 (aZ fr to l))]):=by
 cases hd:bE l
 .refine fn0 Cd.s_l07Keys_k λX=>?_
  repeat' first|simp -dsimp only[go_sem,cC,cFd,hd]|apply Br.mk<;>intro h<;>try simp -dsimp only[h]|refine aB.c (by first|exact dJ l hs hl) ?_|refine aC ?_|fail
  all_goals simp[nN,aZ,hd]
 cases hf:dX fr to (bJ l)
 .refine fn0 Cd.s_l07Keys_k λX=>?_
  repeat' first|simp -dsimp only[go_sem,cC,cFd,hd,hf]|apply Br.mk<;>intro h<;>try simp -dsimp only[h]|refine aB.c (by first|exact dJ l hs hl|exact eY l|exact eZ fr to _) ?_|refine aC ?_|fail
  all_goals simp[nN,aZ,hd,hf]
 have ho:=dE hd hf;refine fn0 Cd.s_l07Keys_k λX=>?_
 repeat' first|simp -dsimp only[go_sem,cC,cFd,hd,hf]|apply Br.mk<;>intro h<;>try simp -dsimp only[h]|refine aB.c (by first|exact dJ l hs hl|exact eY l|exact eZ fr to _) ?_|refine aC ?_|fail
 refine aM.at dM (X:={zz:Nat×(Unit) // zz.1<=l.length∧(l.take zz.1).all (λc=>dB (fH fr to c))=true}) (λzz=>[(6,.loc (.t 6 0) 0 zz.1.1),(7,.v (.int .i64 zz.1.1))]) (λzz=>[(.t 6 0,.arr 1 (E cSt ((bR fr to l).take zz.1.1)) false)]) (λzz=>l.length-zz.1.1) ⟨(0,()),by omega,by simp⟩ ?_ ?_
 .simp[Vs.LeL,Vs.look,aA,aS,aJ,Vs.hset,aK,Vs.E]
 .rintro⟨⟨i,_⟩,hi,hg⟩;dsimp only at hi hg;simp -dsimp only[go_sem,cC,cFd];refine Br.mk (λhc=>?_) λhc=>?_
  .have hlt:i<l.length:=Dq;have hw:=aG hlt hl;have hk:=ho _ (Aa hlt);have hap:=aLW (fr:=fr) (to:=to) hlt;have hkl:=aLY (fr:=fr) (to:=to) (l:=l) (i:=i) (by omega);have hm:(E cC l).getD i []=[.sl 1 (E cI l[i])]:=aN hlt;cases hb:dB (fH fr to l[i])
   .have e1:aCG (fH fr to l[i])=(⟨#[]⟩,false):=by simp[aCG,hb]
    have e2:bU fr to l=false:=gU (p:=λc=>dB (fH fr to c)) hlt hb
    repeat' first|simp -dsimp only[go_sem,hw,hm,e1,cC,cFd]|apply Br.mk<;>intro h<;>try simp -dsimp only[h]|refine aB.c (by first|exact aKl _ fr to hk) ?_|refine aC ?_|fail
    all_goals first|omega|(refine bK ?_;simp[nN,aZ,hd,hf,e2];done)|(simp[nN,aZ,hd,hf,e2];done)
   .have e1:aCG (fH fr to l[i])=(txt (fH fr to l[i]),true):=by simp[aCG,hb]
    repeat' first|simp -dsimp only[go_sem,hw,hm,e1,hap,hkl,aH,cC,cFd]|apply Br.mk<;>intro h<;>try simp -dsimp only[h]|refine aB.c (by first|exact aKl _ fr to hk) ?_|refine aC ?_|fail
    all_goals first|omega|(exact nx (i+1,()) (bD (p:=λc=>dB (fH fr to c)) hlt hg hb))
  .have hge:i=l.length:=by
    have:¬i<l.length:=Dq;omega
   subst hge;simp -dsimp only[go_sem,cC,cFd];have hall:bU fr to l=true:=by simpa[bU] using hg
   have hkl:(E cSt ((bR fr to l).take l.length)).take l.length=E cSt (bR fr to l):=by rw[aHP];exact Ah (by simp[Vs.E,bR])
   have hk2:(E cSt (bR fr to l)).take l.length=E cSt (bR fr to l):=Ah (by simp[Vs.E,bR]);simp[nN,aZ,hd,hf,hall,hkl,hk2,aHP]
def aQ (fr to:Int) (l:List (List Int)):Nat->List Int
 |0=>[]
 |i+1=>aQ fr to l i++(if cmF fr to (l.getD (i+1) []) (l.getD i [])<0 then[((i+1:Nat):Int)] else[])
def stp (fr to:Int) (l:List (List Int)):List Int:=aQ fr to l (l.length-1)
def gM (fr to:Int) (l:List (List Int)):Bool:=((stp fr to l).length:Int)==0
theorem aDs (fr to:Int) (l:List (List Int)):∀i,(aQ fr to l i).length<=i
 |0=>by simp[aQ]
 | i+1=>by
  have:=aDs fr to l i;rw[aQ,AX];split<;>simp<;>omega
theorem aMp {i n:Nat} (h:i<n-1) (F:n<=1048576):IntKind.i64.wrap (((i+1:Nat):Int)+1)=((i+1+1:Nat):Int):=by rw[aV (by omega) (by omega)];omega
theorem aMo {i n:Nat} (h:i<n-1) (F:n<=1048576):IntKind.i64.wrap (((i+1:Nat):Int)-1)=(i:Int):=by rw[aV (by omega) (by omega)];omega
attribute [local go_sem] Af Ag Ao Aq Ae Aj Ad Al Ac Ai Ap in
theorem steps (l:List (List Int)) (fr to:Int) (ho:∀c,c∈l->okF fr to c) (hl:l.length<=1048576):Fz F.aAG [.sl 1 (E cC l),.agg (cFd fr to)] (.sl 1 (E cI (stp fr to l))):=by
 refine fn0 Cd.i_steps_k λX=>?_;simp -dsimp only[go_sem,cC,cFd];refine⟨⟨by omega,by omega⟩,?_⟩;refine aM.at dM (X:={zz:Nat×(Unit) // zz.1<=l.length-1∧True}) (λzz=>[(5,.loc (.t 5 0) 0 (aQ fr to l zz.1.1).length),(6,.v (.int .i64 ((zz.1.1+1:Nat):Int)))]) (λzz=>[(.t 5 0,.arr 1 (E cI (aQ fr to l zz.1.1)) false)]) (λzz=>l.length-1-zz.1.1) ⟨(0,()),by omega,trivial⟩ ?_ ?_
 .simp[Vs.LeL,Vs.look,aA,aS,aJ,Vs.hset,aK,Vs.E,aQ]
 .rintro⟨⟨i,_⟩,hi,hg⟩;dsimp only at hi hg;simp -dsimp only[go_sem,cC,cFd];refine Br.mk (λhc=>?_) λhc=>?_
  .have hlt:i<l.length-1:=Dq;have hw:=aG hlt (by omega);have hl1:i+1<l.length:=by omega
   have hl0:i<l.length:=by omega
   have hk1:=ho _ (Aa hl1);have hk0:=ho _ (Aa hl0);have hm1:(E cC l).getD (i+1) []=[.sl 1 (E cI l[i+1])]:=aN hl1;have hm0:(E cC l).getD i []=[.sl 1 (E cI l[i])]:=aN hl0;have hw2:=aMp hlt hl;have hw3:=aMo hlt hl;have hsl:=aDs fr to l i;have g1:l.getD (i+1) []=l[i+1]:=by simp[List.getD,hl1]
   have g0:l.getD i []=l[i]:=by simp[List.getD,hl0]
   by_cases hz:cmF fr to l[i+1] l[i]<0
   .have e1:decide (cmF fr to l[i+1] l[i]<0)=true:=A9 hz;have hs:aQ fr to l (i+1)=aQ fr to l i++[((i+1:Nat):Int)]:=by rw[aQ,g1,g0,AP hz]
    have hap:E cI (aQ fr to l i)++[[.v (.int .i64 ((i+1:Nat):Int))]]=E cI (aQ fr to l (i+1)):=by rw[hs,bG];rfl
    have hln:(aQ fr to l (i+1)).length=(aQ fr to l i).length+1:=by rw[hs];simp
    repeat' first|simp -dsimp only[go_sem,hw2,hw3,hm1,hm0,e1,hap,aH,cC,cFd]|apply Br.mk<;>intro h<;>try simp -dsimp only[h]|refine aB.c (by first|exact lV _ _ fr to hk1 hk0) ?_|refine aC ?_|fail
    all_goals first|omega|(exact nx (i+1,()) trivial (h2:=by simp[Vs.LeL,Vs.look,aA,aS,aJ,Vs.hset,aK,hln]))
   .have e1:decide (cmF fr to l[i+1] l[i]<0)=false:=AQ hz;have hs:aQ fr to l (i+1)=aQ fr to l i:=by rw[aQ,g1,g0,AC hz];simp
    repeat' first|simp -dsimp only[go_sem,hw2,hw3,hm1,hm0,e1,aH,cC,cFd]|apply Br.mk<;>intro h<;>try simp -dsimp only[h]|refine aB.c (by first|exact lV _ _ fr to hk1 hk0) ?_|refine aC ?_|fail
    all_goals first|omega|(exact nx (i+1,()) trivial (h2:=by simp[Vs.LeL,Vs.look,aA,aS,aJ,Vs.hset,aK,hs]))
  .have hge:i=l.length-1:=by
    have:¬i<l.length-1:=Dq;omega
   subst hge;simp -dsimp only[go_sem,cC,cFd];exact⟨⟨_,_,rfl,rfl⟩,by simp⟩
theorem fU (l:List (List Int)) (fr to:Int) (I:∀c,c∈l->okF fr to c) (H:l.length<=1048576):Fz F.fZ [.sl 1 (E cC l),.agg (cFd fr to)] (.v (.bool (gM fr to l))):=by
 refine fn0 Cd.i_isAscending_k λX=>?_
 repeat' first|simp -dsimp only[go_sem,cFd,aH]|apply Br.mk<;>intro h<;>try simp -dsimp only[h]|refine aB.c (by first|exact steps l fr to I H) ?_|refine aC ?_|fail
 all_goals(simp_all [gM])
end
section
variable [Vs.Envs]
attribute [local irreducible] Vs.Fn
theorem getD_lt {α:Type}{l:List α}{i:Nat} (h:i<l.length) (d:α):l.getD i d=l[i]:=by simp[List.getD,h]
def cTs (t:List Tot):List AV:=[.sl 2 (E cT t)]
structure Off where
 trays:List (List (List Int))
 totals:List (List Tot)
def cO (o:Off):List AV:=[.sl 1 (E cD o.trays),.sl 1 (E cTs o.totals)]
def aY (l:List (List Int)):Prop:=l.length<=1048576∧∀c,c∈l->c.length<=1048576
def wU (l:List (List (List Int))):Prop:=l.length<=1048576∧∀d,d∈l->aY d
def aEf (l:List Tot):Prop:=l.length<=1048576∧∀t,t∈l->t.1.size<=1048576
def tL (l:List (List Tot)):Prop:=l.length<=1048576∧∀t,t∈l->aEf t
def eD (o:Off):Prop:=wU o.trays∧tL o.totals
end
end Go.Proofs.YtkgeiaideklmoaaGreat
