/- Cards are sorted: the program's way. -/
import Derived.Test.YthbnjmgjhonfbaaGreatTwQd
import Derived.Test.YthbnjmgjhonfbaaGreatTwC
import Derived.Test.YthbnjmgjhonfbaaGreatVtR
set_option linter.all false
set_option maxHeartbeats 8000000
namespace Go.Proofs.YthbnjmgjhonfbaaGreat
open Go.Vs
section
variable [Vs.Envs]
attribute [local irreducible] Vs.Fn cZ aW dB dC l03 chB rk cd3 chI stp aZ
attribute [local irreducible] bG
attribute [local go_sem] cC List.replicate_succ List.replicate_zero List.flatten_cons List.flatten_nil List.cons_append List.nil_append List.set_cons_zero List.set_cons_succ List.length_cons List.length_nil List.length_set
def aFB (l:List (List (List Int))):Prop:=l.length≤1048576∧∀d,d∈l→bA d
def kH (fr to:Int) (ls:List (List (List Int))):Int:=
 if ls.all aS then(if ls.all (fun d=>dJ fr to (aT d)) then(if ls.all (bI fr to) then 0 else 8) else 2) else 1
def yM (fr to:Int) (ts:List ByteArray) (ls:List (List (List Int))):Int:=
 if ls.all aS then(if ls.all (fun d=>dJ fr to (aT d)) then(if ts.all (fun t=>(t.size:Int)==W (to-fr)) then(if ts.all aW then(if ls.all (bI fr to) then 0 else 8) else 7) else 2) else 2) else 1
theorem uQ (fr to:Int) (ls:List (List (List Int))) (hk:aFB ls):Fz F.eD [.agg (cFd fr to),.v (.bool true),.v (.slice none 0 0),.sl 1 (E cD ls)] (.v (.int .i64 (kH fr to ls))):=by
 refine fn0 Cd.i_collateCode_k fun X=>?_;simp -dsimp only[go_sem,cFd,cD];refine aN.at dM (X:={zz:Nat×(Unit) // zz.1≤ls.length∧(ls.take zz.1).all (aS)=true}) (fun zz=>[(21,.v (.int .i64 zz.1.1))]) (fun zz=>[]) (fun zz=>ls.length-zz.1.1) ⟨(0,()),by omega,by simp⟩ ?_ ?_
 ·exact le0
 ·rintro⟨⟨i,_⟩,hi,hg⟩;dsimp only at hi hg;simp -dsimp only[go_sem,cFd,cD];refine Br.mk (fun hc=>?_) fun hc=>?_
  ·have hlt:i<ls.length:=Dq;have hw:=aG hlt hk.1;have hsm:=hk.2 _ (List.getElem_mem hlt);have hm:(E cD ls).getD i []=[.sl 1 (E cC ls[i])]:=aX hlt;cases hb:aS ls[i]
   ·have hall:ls.all (aS)=false:=gJ (p:=aS) hlt hb
    repeat' first|simp -dsimp only[go_sem,hw,hm,hb,cFd,cD]|apply Br.mk<;>intro h<;>try simp -dsimp only[h]|refine aA.c (by first|exact lZ _ hsm.2 hsm.1) ?_|refine aC ?_|fail
    all_goals first|omega|(refine aO ?_;simp[kH,hall];done)|(simp[kH,hall];done)
   ·simp -dsimp only[go_sem,hw,hm,hb,cFd,cD]
    repeat' first|simp -dsimp only[go_sem,hw,hm,hb,cFd,cD]|apply Br.mk<;>intro h<;>try simp -dsimp only[h]|refine aA.c (by first|exact lZ _ hsm.2 hsm.1) ?_|refine aC ?_|fail
    all_goals first|omega|(exact nx (i+1,()) (bE (p:=aS) hlt hg hb))
  ·have hge:i=ls.length:=by
    have:¬i<ls.length:=Dq;omega
   subst hge;simp -dsimp only[go_sem,cFd,cD];have a1:ls.all (aS)=true:=by simpa using hg
   clear hg hi hc;refine⟨?_,by simp⟩;refine aN.at dM (X:={zz:Nat×(Unit) // zz.1≤ls.length∧(ls.take zz.1).all ((fun d=>dJ fr to (aT d)))=true}) (fun zz=>[(33,.v (.int .i64 zz.1.1))]) (fun zz=>[]) (fun zz=>ls.length-zz.1.1) ⟨(0,()),by omega,by simp⟩ ?_ ?_
   ·exact le0
   ·rintro⟨⟨i,_⟩,hi,hg⟩;dsimp only at hi hg;simp -dsimp only[go_sem,cFd,cD];refine Br.mk (fun hc=>?_) fun hc=>?_
    ·have hlt:i<ls.length:=Dq;have hw:=aG hlt hk.1;have hsm:=hk.2 _ (List.getElem_mem hlt);have hm:(E cD ls).getD i []=[.sl 1 (E cC ls[i])]:=aX hlt;cases hb:(fun d=>dJ fr to (aT d)) ls[i]
     ·have hall:ls.all ((fun d=>dJ fr to (aT d)))=false:=gJ (p:=(fun d=>dJ fr to (aT d))) hlt hb
      repeat' first|simp -dsimp only[go_sem,hw,hm,hb,cFd,cD]|apply Br.mk<;>intro h<;>try simp -dsimp only[h]|refine aA.c (by first|exact iF _|exact sM fr to _) ?_|refine aC ?_|fail
      all_goals first|omega|(refine aO ?_;simp[kH,hall,a1];done)|(simp[kH,hall,a1];done)
     ·simp -dsimp only[go_sem,hw,hm,hb,cFd,cD]
      repeat' first|simp -dsimp only[go_sem,hw,hm,hb,cFd,cD]|apply Br.mk<;>intro h<;>try simp -dsimp only[h]|refine aA.c (by first|exact iF _|exact sM fr to _) ?_|refine aC ?_|fail
      all_goals first|omega|(exact nx (i+1,()) (bE (p:=(fun d=>dJ fr to (aT d))) hlt hg hb))
    ·have hge:i=ls.length:=by
      have:¬i<ls.length:=Dq;omega
     subst hge;simp -dsimp only[go_sem,cFd,cD];have a2:ls.all ((fun d=>dJ fr to (aT d)))=true:=by simpa using hg
     clear hg hi hc;refine⟨?_,by simp⟩;refine aN.at dM (X:={zz:Nat×(Unit) // zz.1≤0∧True}) (fun zz=>[(45,.v (.int .i64 zz.1.1))]) (fun zz=>[]) (fun zz=>0-zz.1.1) ⟨(0,()),by omega,trivial⟩ ?_ ?_
     ·exact le0
     ·rintro⟨⟨i,_⟩,hi,hg⟩;dsimp only at hi hg;simp -dsimp only[go_sem,cFd,cD];refine Br.mk (fun hc=>?_) fun hc=>?_
      ·have hlt:i<0:=by have:=of_decide_eq_true hc;omega
       have hw:=aG hlt (by omega);exact absurd hlt (by omega)
      ·have hge:i=0:=by
        have:¬i<0:=by have:=of_decide_eq_false hc;omega
        omega
       subst hge;simp -dsimp only[go_sem,cFd,cD];clear hg hi hc;refine⟨?_,by simp⟩;refine aN.at dM (X:={zz:Nat×(Unit) // zz.1≤0∧True}) (fun zz=>[(60,.v (.int .i64 zz.1.1))]) (fun zz=>[]) (fun zz=>0-zz.1.1) ⟨(0,()),by omega,trivial⟩ ?_ ?_
       ·exact le0
       ·rintro⟨⟨i,_⟩,hi,hg⟩;dsimp only at hi hg;simp -dsimp only[go_sem,cFd,cD];refine Br.mk (fun hc=>?_) fun hc=>?_
        ·have hlt:i<0:=by have:=of_decide_eq_true hc;omega
         have hw:=aG hlt (by omega);exact absurd hlt (by omega)
        ·have hge:i=0:=by
          have:¬i<0:=by have:=of_decide_eq_false hc;omega
          omega
         subst hge;simp -dsimp only[go_sem,cFd,cD];clear hg hi hc;refine⟨?_,by simp⟩;refine aN.at dM (X:={zz:Nat×(Unit) // zz.1≤ls.length∧(ls.take zz.1).all ((bI fr to))=true}) (fun zz=>[(70,.v (.int .i64 zz.1.1))]) (fun zz=>[]) (fun zz=>ls.length-zz.1.1) ⟨(0,()),by omega,by simp⟩ ?_ ?_
         ·exact le0
         ·rintro⟨⟨i,_⟩,hi,hg⟩;dsimp only at hi hg;simp -dsimp only[go_sem,cFd,cD];refine Br.mk (fun hc=>?_) fun hc=>?_
          ·have hlt:i<ls.length:=Dq;have hw:=aG hlt hk.1;have hsm:=hk.2 _ (List.getElem_mem hlt);have hm:(E cD ls).getD i []=[.sl 1 (E cC ls[i])]:=aX hlt;have hdk:aS ls[i]=true:=(List.all_eq_true.1 a1) _ (List.getElem_mem hlt);have hfk:dJ fr to (aT ls[i])=true:=(List.all_eq_true.1 a2) _ (List.getElem_mem hlt);have hof:=dW hdk hfk;cases hb:(bI fr to) ls[i]
           ·have hall:ls.all ((bI fr to))=false:=gJ (p:=(bI fr to)) hlt hb
            repeat' first|simp -dsimp only[go_sem,hw,hm,hb,cFd,cD]|apply Br.mk<;>intro h<;>try simp -dsimp only[h]|refine aA.c (by first|exact oI _ fr to hof hsm.1) ?_|refine aC ?_|fail
            all_goals first|omega|(refine aO ?_;simp[kH,hall,a1,a2];done)|(simp[kH,hall,a1,a2];done)
           ·simp -dsimp only[go_sem,hw,hm,hb,cFd,cD]
            repeat' first|simp -dsimp only[go_sem,hw,hm,hb,cFd,cD]|apply Br.mk<;>intro h<;>try simp -dsimp only[h]|refine aA.c (by first|exact oI _ fr to hof hsm.1) ?_|refine aC ?_|fail
            all_goals first|omega|(exact nx (i+1,()) (bE (p:=(bI fr to)) hlt hg hb))
          ·have hge:i=ls.length:=by
            have:¬i<ls.length:=Dq;omega
           subst hge;simp -dsimp only[go_sem,cFd,cD];have a5:ls.all (bI fr to)=true:=by simpa using hg
           simp[kH,a1,a2,a5]
theorem aJD (fr to:Int) (ls:List (List (List Int))) (hk:aFB ls) (ts:List ByteArray) (hts:ts.length≤1048576) (htz:∀t,t∈ts→t.size≤1048576):Fz F.eD [.agg (cFd fr to),.v (.bool true),.sl 1 (E cSt ts),.sl 1 (E cD ls)] (.v (.int .i64 (yM fr to ts ls))):=by
 refine fn0 Cd.i_collateCode_k fun X=>?_;simp -dsimp only[go_sem,cFd,cD];refine aN.at dM (X:={zz:Nat×(Unit) // zz.1≤ls.length∧(ls.take zz.1).all (aS)=true}) (fun zz=>[(21,.v (.int .i64 zz.1.1))]) (fun zz=>[]) (fun zz=>ls.length-zz.1.1) ⟨(0,()),by omega,by simp⟩ ?_ ?_
 ·exact le0
 ·rintro⟨⟨i,_⟩,hi,hg⟩;dsimp only at hi hg;simp -dsimp only[go_sem,cFd,cD];refine Br.mk (fun hc=>?_) fun hc=>?_
  ·have hlt:i<ls.length:=Dq;have hw:=aG hlt hk.1;have hsm:=hk.2 _ (List.getElem_mem hlt);have hm:(E cD ls).getD i []=[.sl 1 (E cC ls[i])]:=aX hlt;cases hb:aS ls[i]
   ·have hall:ls.all (aS)=false:=gJ (p:=aS) hlt hb
    repeat' first|simp -dsimp only[go_sem,hw,hm,hb,cFd,cD]|apply Br.mk<;>intro h<;>try simp -dsimp only[h]|refine aA.c (by first|exact lZ _ hsm.2 hsm.1) ?_|refine aC ?_|fail
    all_goals first|omega|(refine aO ?_;simp[yM,hall];done)|(simp[yM,hall];done)
   ·simp -dsimp only[go_sem,hw,hm,hb,cFd,cD]
    repeat' first|simp -dsimp only[go_sem,hw,hm,hb,cFd,cD]|apply Br.mk<;>intro h<;>try simp -dsimp only[h]|refine aA.c (by first|exact lZ _ hsm.2 hsm.1) ?_|refine aC ?_|fail
    all_goals first|omega|(exact nx (i+1,()) (bE (p:=aS) hlt hg hb))
  ·have hge:i=ls.length:=by
    have:¬i<ls.length:=Dq;omega
   subst hge;simp -dsimp only[go_sem,cFd,cD];have a1:ls.all (aS)=true:=by simpa using hg
   clear hg hi hc;refine⟨?_,by simp⟩;refine aN.at dM (X:={zz:Nat×(Unit) // zz.1≤ls.length∧(ls.take zz.1).all ((fun d=>dJ fr to (aT d)))=true}) (fun zz=>[(33,.v (.int .i64 zz.1.1))]) (fun zz=>[]) (fun zz=>ls.length-zz.1.1) ⟨(0,()),by omega,by simp⟩ ?_ ?_
   ·exact le0
   ·rintro⟨⟨i,_⟩,hi,hg⟩;dsimp only at hi hg;simp -dsimp only[go_sem,cFd,cD];refine Br.mk (fun hc=>?_) fun hc=>?_
    ·have hlt:i<ls.length:=Dq;have hw:=aG hlt hk.1;have hsm:=hk.2 _ (List.getElem_mem hlt);have hm:(E cD ls).getD i []=[.sl 1 (E cC ls[i])]:=aX hlt;cases hb:(fun d=>dJ fr to (aT d)) ls[i]
     ·have hall:ls.all ((fun d=>dJ fr to (aT d)))=false:=gJ (p:=(fun d=>dJ fr to (aT d))) hlt hb
      repeat' first|simp -dsimp only[go_sem,hw,hm,hb,cFd,cD]|apply Br.mk<;>intro h<;>try simp -dsimp only[h]|refine aA.c (by first|exact iF _|exact sM fr to _) ?_|refine aC ?_|fail
      all_goals first|omega|(refine aO ?_;simp[yM,hall,a1];done)|(simp[yM,hall,a1];done)
     ·simp -dsimp only[go_sem,hw,hm,hb,cFd,cD]
      repeat' first|simp -dsimp only[go_sem,hw,hm,hb,cFd,cD]|apply Br.mk<;>intro h<;>try simp -dsimp only[h]|refine aA.c (by first|exact iF _|exact sM fr to _) ?_|refine aC ?_|fail
      all_goals first|omega|(exact nx (i+1,()) (bE (p:=(fun d=>dJ fr to (aT d))) hlt hg hb))
    ·have hge:i=ls.length:=by
      have:¬i<ls.length:=Dq;omega
     subst hge;simp -dsimp only[go_sem,cFd,cD];have a2:ls.all ((fun d=>dJ fr to (aT d)))=true:=by simpa using hg
     clear hg hi hc;refine⟨?_,by simp⟩;refine aN.at dM (X:={zz:Nat×(Unit) // zz.1≤ts.length∧(ts.take zz.1).all ((fun t:ByteArray=>(t.size:Int)==W (to-fr)))=true}) (fun zz=>[(45,.v (.int .i64 zz.1.1))]) (fun zz=>[]) (fun zz=>ts.length-zz.1.1) ⟨(0,()),by omega,by simp⟩ ?_ ?_
     ·exact le0
     ·rintro⟨⟨i,_⟩,hi,hg⟩;dsimp only at hi hg;simp -dsimp only[go_sem,cFd,cD];refine Br.mk (fun hc=>?_) fun hc=>?_
      ·have hlt:i<ts.length:=Dq;have hw:=aG hlt hts;have hm:(E cSt ts).getD i []=[.v (.string ts[i])]:=aX hlt;have hne:((ts[i].size:Int) != IntKind.i64.wrap (to-fr)) = !((ts[i].size:Int)==W (to-fr)):=rfl;cases hb:(fun t:ByteArray=>(t.size:Int)==W (to-fr)) ts[i]
       ·have hall:ts.all ((fun t:ByteArray=>(t.size:Int)==W (to-fr)))=false:=gJ (p:=(fun t:ByteArray=>(t.size:Int)==W (to-fr))) hlt hb
        repeat' first|simp -dsimp only[go_sem,hw,hm,hb,hne,Bool.not_true,Bool.not_false,cFd,cD]|apply Br.mk<;>intro h<;>try simp -dsimp only[h]|refine aC ?_|fail
        all_goals first|omega|(refine aO ?_;simp[yM,hall,a1,a2];done)|(simp[yM,hall,a1,a2];done)
       ·simp -dsimp only[go_sem,hw,hm,hb,hne,Bool.not_true,Bool.not_false,cFd,cD]
        repeat' first|simp -dsimp only[go_sem,hw,hm,hb,hne,Bool.not_true,Bool.not_false,cFd,cD]|apply Br.mk<;>intro h<;>try simp -dsimp only[h]|refine aC ?_|fail
        all_goals first|omega|(exact nx (i+1,()) (bE (p:=(fun t:ByteArray=>(t.size:Int)==W (to-fr))) hlt hg hb))
      ·have hge:i=ts.length:=by
        have:¬i<ts.length:=Dq;omega
       subst hge;simp -dsimp only[go_sem,cFd,cD];have a3:ts.all ((fun t:ByteArray=>(t.size:Int)==W (to-fr)))=true:=by simpa using hg
       clear hg hi hc;refine⟨?_,by simp⟩;refine aN.at dM (X:={zz:Nat×(Unit) // zz.1≤ts.length∧(ts.take zz.1).all (aW)=true}) (fun zz=>[(60,.v (.int .i64 zz.1.1))]) (fun zz=>[]) (fun zz=>ts.length-zz.1.1) ⟨(0,()),by omega,by simp⟩ ?_ ?_
       ·exact le0
       ·rintro⟨⟨i,_⟩,hi,hg⟩;dsimp only at hi hg;simp -dsimp only[go_sem,cFd,cD];refine Br.mk (fun hc=>?_) fun hc=>?_
        ·have hlt:i<ts.length:=Dq;have hw:=aG hlt hts;have hm:(E cSt ts).getD i []=[.v (.string ts[i])]:=aX hlt;cases hb:aW ts[i]
         ·have hall:ts.all (aW)=false:=gJ (p:=aW) hlt hb
          repeat' first|simp -dsimp only[go_sem,hw,hm,hb,cFd,cD]|apply Br.mk<;>intro h<;>try simp -dsimp only[h]|refine aA.c (by first|exact oJ _ (htz _ (List.getElem_mem hlt))) ?_|refine aC ?_|fail
          all_goals first|omega|(refine aO ?_;simp[yM,hall,a1,a2,a3];done)|(simp[yM,hall,a1,a2,a3];done)
         ·simp -dsimp only[go_sem,hw,hm,hb,cFd,cD]
          repeat' first|simp -dsimp only[go_sem,hw,hm,hb,cFd,cD]|apply Br.mk<;>intro h<;>try simp -dsimp only[h]|refine aA.c (by first|exact oJ _ (htz _ (List.getElem_mem hlt))) ?_|refine aC ?_|fail
          all_goals first|omega|(exact nx (i+1,()) (bE (p:=aW) hlt hg hb))
        ·have hge:i=ts.length:=by
          have:¬i<ts.length:=Dq;omega
         subst hge;simp -dsimp only[go_sem,cFd,cD];have a4:ts.all (aW)=true:=by simpa using hg
         clear hg hi hc;refine⟨?_,by simp⟩;refine aN.at dM (X:={zz:Nat×(Unit) // zz.1≤ls.length∧(ls.take zz.1).all ((bI fr to))=true}) (fun zz=>[(70,.v (.int .i64 zz.1.1))]) (fun zz=>[]) (fun zz=>ls.length-zz.1.1) ⟨(0,()),by omega,by simp⟩ ?_ ?_
         ·exact le0
         ·rintro⟨⟨i,_⟩,hi,hg⟩;dsimp only at hi hg;simp -dsimp only[go_sem,cFd,cD];refine Br.mk (fun hc=>?_) fun hc=>?_
          ·have hlt:i<ls.length:=Dq;have hw:=aG hlt hk.1;have hsm:=hk.2 _ (List.getElem_mem hlt);have hm:(E cD ls).getD i []=[.sl 1 (E cC ls[i])]:=aX hlt;have hdk:aS ls[i]=true:=(List.all_eq_true.1 a1) _ (List.getElem_mem hlt);have hfk:dJ fr to (aT ls[i])=true:=(List.all_eq_true.1 a2) _ (List.getElem_mem hlt);have hof:=dW hdk hfk;cases hb:(bI fr to) ls[i]
           ·have hall:ls.all ((bI fr to))=false:=gJ (p:=(bI fr to)) hlt hb
            repeat' first|simp -dsimp only[go_sem,hw,hm,hb,cFd,cD]|apply Br.mk<;>intro h<;>try simp -dsimp only[h]|refine aA.c (by first|exact oI _ fr to hof hsm.1) ?_|refine aC ?_|fail
            all_goals first|omega|(refine aO ?_;simp[yM,hall,a1,a2,a3,a4];done)|(simp[yM,hall,a1,a2,a3,a4];done)
           ·simp -dsimp only[go_sem,hw,hm,hb,cFd,cD]
            repeat' first|simp -dsimp only[go_sem,hw,hm,hb,cFd,cD]|apply Br.mk<;>intro h<;>try simp -dsimp only[h]|refine aA.c (by first|exact oI _ fr to hof hsm.1) ?_|refine aC ?_|fail
            all_goals first|omega|(exact nx (i+1,()) (bE (p:=(bI fr to)) hlt hg hb))
          ·have hge:i=ls.length:=by
            have:¬i<ls.length:=Dq;omega
           subst hge;simp -dsimp only[go_sem,cFd,cD];have a5:ls.all (bI fr to)=true:=by simpa using hg
           simp[yM,a1,a2,a3,a4,a5]
theorem aGo (fr to:Int) (l:List (List Int)) (i:Nat):∀k,∃r,aZ fr to l (i+k)=aZ fr to l i++r
 |0=>⟨[],by simp⟩
 | k+1=>by
  obtain⟨r,hr⟩:=aGo fr to l i k;exact⟨r++(if cmF fr to (l.getD (i+k+1) []) (l.getD (i+k) [])<0 then[((i+k+1:Nat):Int)] else[]),by rw[←Nat.add_assoc,aZ,hr,List.append_assoc]⟩
def stF (fr to:Int) (l:List (List Int)):Int:=(stp fr to l).headD (-1)
theorem dL (fr to:Int) (l:List (List Int)):decide (stF fr to l≥0) = !iW fr to l:=by
 have hm:∀k,∀x,x∈aZ fr to l k→0≤x:=by
  intro k
  induction k with
  |zero=>intro x hx;simp[aZ] at hx
  | succ k ih =>
   intro x hx;rw[aZ] at hx;rcases List.mem_append.1 hx with hx|hx
   ·exact ih x hx
   ·split at hx
    ·simp at hx;omega
    ·cases hx
 unfold stF iW;cases h:stp fr to l with
 |nil=>simp
 | cons x r =>
  have:=hm (l.length-1) x (by unfold stp at h;rw[h];simp);simp only[List.headD_cons,ge_iff_le,this,decide_true,List.length_cons]
  symm
  simp;omega
attribute [local go_sem] aH cFd cD in
theorem cB (l:List (List Int)) (fr to:Int) (ho:∀c,c∈l→okF fr to c) (hh:bI fr to l=true) (hl:l.length≤1048576):Fz F.l7 [.sl 1 (E cSt (bS fr to l))] (.v (.int .i64 (stF fr to l))):=by
 have hkl:(bS fr to l).length=l.length:=by simp[bS]
 refine fn0 Cd.s_l07Step_k fun X=>?_;simp -dsimp only[go_sem,hkl];refine aN.at dM (X:={zz:Nat×(Unit) // zz.1≤l.length-1∧aZ fr to l zz.1=[]}) (fun zz=>[(3,.v (.int .i64 ((zz.1.1+1:Nat):Int)))]) (fun zz=>[]) (fun zz=>l.length-1-zz.1.1) ⟨(0,()),by omega,by simp[aZ]⟩ ?_ ?_
 ·simp[Vs.LeL,Vs.look,Vs.aB,Vs.aP,Vs.aK,Vs.hset,Vs.aL,Vs.E,aZ]
 ·rintro⟨⟨i,_⟩,hi,hg⟩;dsimp only at hi hg;simp -dsimp only[go_sem,hkl];refine Br.mk (fun hc=>?_) fun hc=>?_
  ·have hlt:i<l.length-1:=Dq;have hw:=aG hlt (by omega);have hl1:i+1<l.length:=by omega
   have hl0:i<l.length:=by omega
   have hk1:=ho _ (List.getElem_mem hl1);have hk0:=ho _ (List.getElem_mem hl0);have hc1:cK (fH fr to l[i+1])=true:=(List.all_eq_true.1 hh) _ (List.getElem_mem hl1);have hc0:cK (fH fr to l[i])=true:=(List.all_eq_true.1 hh) _ (List.getElem_mem hl0);have hm1:(E cSt (bS fr to l)).getD (i+1) []=[.v (.string (txt (fH fr to l[i+1])))]:=by rw[aX (by omega)];simp[bS,cSt]
   have hm0:(E cSt (bS fr to l)).getD i []=[.v (.string (txt (fH fr to l[i])))]:=by rw[aX (by omega)];simp[bS,cSt]
   have hw2:=aLm hlt hl;have hw3:=aLl hlt hl;have g1:l.getD (i+1) []=l[i+1]:=by simp[List.getD,hl1]
   have g0:l.getD i []=l[i]:=by simp[List.getD,hl0]
   have hcf:jC (fH fr to l[i+1]) (fH fr to l[i])=cmF fr to l[i+1] l[i]:=rfl;by_cases hz:cmF fr to l[i+1] l[i]<0
   ·have e1:decide (cmF fr to l[i+1] l[i]<0)=true:=decide_eq_true hz;have hs:aZ fr to l (i+1)=[((i+1:Nat):Int)]:=by rw[aZ,g1,g0,if_pos hz,hg];rfl
    obtain⟨r,hr⟩:=aGo fr to l (i+1) (l.length-1-(i+1));rw[show i+1+(l.length-1-(i+1))=l.length-1 by omega,hs] at hr;have hst:stF fr to l=((i+1:Nat):Int):=by unfold stF stp;rw[hr];rfl
    repeat' first|simp -dsimp only[go_sem,hw2,hw3,hm1,hm0,hcf,e1,hkl]|apply Br.mk<;>intro h<;>try simp -dsimp only[h]|refine aA.c (by first|exact vI _ _ (aAC hk1) ((lC hk1).trans (lC hk0).symm) hc1 hc0) ?_|refine aC ?_|fail
    all_goals first|omega|(refine aO ?_;simp[hst];done)|(simp[hst];done)
   ·have e1:decide (cmF fr to l[i+1] l[i]<0)=false:=decide_eq_false hz;have hs:aZ fr to l (i+1)=[]:=by rw[aZ,g1,g0,if_neg hz,hg];rfl
    repeat' first|simp -dsimp only[go_sem,hw2,hw3,hm1,hm0,hcf,e1,hkl]|apply Br.mk<;>intro h<;>try simp -dsimp only[h]|refine aA.c (by first|exact vI _ _ (aAC hk1) ((lC hk1).trans (lC hk0).symm) hc1 hc0) ?_|refine aC ?_|fail
    all_goals first|omega|(exact nx (i+1,()) hs)
  ·have hge:i=l.length-1:=by
    have:¬i<l.length-1:=Dq;omega
   subst hge;simp -dsimp only[go_sem,hkl];have hst:stF fr to l=-1:=by unfold stF stp;rw[hg];rfl
   simp[hst]
end
section
variable [Vs.Envs]
attribute [local irreducible] Vs.Fn cZ aW dB dC l03 chB rk cd3 chI stp aZ
def flt (q:List Int→Bool) (l:List (List Int)):List (List Int):=l.filter fun x=>!q x
theorem xJ {q:List Int→Bool}{l:List (List Int)}{j:Nat} (h:j<l.length):flt q (l.take (j+1))=flt q (l.take j)++(if q l[j] then[] else[l[j]]):=by
 unfold flt;rw[bL h,List.filter_append];congr 1;cases hq:q l[j]<;>simp[List.filter_cons,hq]
theorem vN (q:List Int→Bool) (l:List (List Int)):(flt q l).length≤l.length:=List.length_filter_le ..
theorem aE9 {q:List Int→Bool}{l:List (List Int)} (h:l.all (fun x=>!q x)=true):flt q l=l:=by
 unfold flt;exact List.filter_eq_self.2 (List.all_eq_true.1 h)
theorem aFX (q:List Int→Bool) (l:List (List Int)):(sD q l=-1∧l.all (fun x=>!q x)=true)∨∃i:Nat,∃h:i<l.length,sD q l=i∧q l[i]=true∧(l.take i).all (fun x=>!q x)=true:=by
 unfold sD;cases h:l.findIdx? q with
 | none =>
  rw[List.findIdx?_eq_none_iff] at h;exact .inl ⟨rfl,List.all_eq_true.2 fun x hx=>by simp[h x hx]⟩
 | some i =>
  rw[List.findIdx?_eq_some_iff_getElem] at h;obtain⟨hi,hp,h2⟩:=h;refine .inr ⟨i,hi,rfl,hp,List.all_eq_true.2 fun x hx=>?_⟩;obtain⟨j,hj,rfl⟩:=List.mem_take_iff_getElem.1 hx;simpa using h2 j (by omega)
theorem aMx (m:List (List Int)) (i:Nat) (x:List Int):(E cC m).set i [.sl 1 (E cI x)]=E cC (m.set i x):=by simp[E,List.map_set,cC]
theorem aA6 (l:List (List Int)):(E cC l).take l.length=E cC l:=List.take_of_length_le (by simp[E])
def zR (n:Nat):List (List AV):=List.replicate n [.v (.slice none 0 0)]
theorem aK5 {m:List (List Int)}{i n:Nat} (hm:m.length=n) (hi:i≤n):aAF (E cC m) i (n-i) [.v (.slice none 0 0)]=E cC (m.take i)++zR (n-i):=by
 unfold aAF zR;have h1:(E cC m).take i=E cC (m.take i):=by simp[E,List.map_take]
 have h2:(E cC m).drop (i+(n-i))=[]:=List.drop_eq_nil_of_le (by rw[aH];omega);rw[h1,h2,List.append_nil]
theorem aDj {c:List AV} (h:jD c=true) (n:Name):nH n c=false:=by
 induction c with
 |nil=>rfl
 | cons x r ih =>
  simp only[jD,List.all_cons,Bool.and_eq_true] at h
  have hx:x.has n=false:=by
   have h1:=h.1;cases x<;>first|rfl|simp[aJJ] at h1
  simp[nH,hx,ih h.2]
attribute [local irreducible] flt sD zR aAF
theorem delF (q:List Int→Bool) (g:FuncId) (caps:List AV) (hcaps:jD caps=true) (l:List (List Int)) (hl:l.length≤1048576) (hq:∀x,x∈l→Vs.Fn Tryz.prog g [] (.agg (cC x)::caps) (.v (.bool (q x))) []) :
  Vs.Fn Tryz.prog F.rY [.arr 1 (E cC l) false] [.loc (.b 0) 0 l.length,.fn g caps] (.loc (.b 0) 0 (flt q l).length) [some (.arr 1 (E cC (flt q l)++zR (l.length-(flt q l).length)) false)]:=by
 have hidx:Fz F.lF [.sl 1 (E cC l),.fn g caps] (.v (.int .i64 (sD q l))):=
  aD2 Tryz.mixed (k:=1) Cd.ixf_Card_k.o Cd.ixf_Card_k.n Cd.ixf_Card_k.r rfl q g caps hcaps (fun _=>rfl) (fun _=>rfl) hq hl
 refine fn1 Cd.dlf_Card_k [.b 0] [.arr 1 (E cC (flt q l)++zR (l.length-(flt q l).length)) false] fun X=>?_;unfold Cd.rY;simp -dsimp only[go_sem,aF hcaps _ 6,aF hcaps _ 7,aA6,aH];refine aA.flat hidx rfl ?_;rcases aFX q l with⟨hn,hall⟩|⟨i0,hi0,hn,hq0,hall⟩
 ·have e1:((-1:Int) == -1)=true:=rfl;rw[hn];have hfl:=aE9 hall;rw[hfl];have hz0:E cC l++zR (l.length-l.length)=E cC l:=by unfold zR;simp
  simp -dsimp only[go_sem,e1,aH,List.replicate_succ,List.replicate_zero,List.flatten_cons,List.flatten_nil,List.cons_append,List.nil_append,List.set_cons_zero,List.set_cons_succ,List.length_cons,List.length_nil,List.length_set];exact⟨[],[],rfl,by rw[hz0]⟩
 ·have e1:((i0:Int) == -1)=false:=beq_eq_false_iff_ne.2 (by omega);have hw0:=aG hi0 hl;rw[hn];simp -dsimp only[go_sem,e1,hw0,aH,List.replicate_succ,List.replicate_zero,List.flatten_cons,List.flatten_nil,List.cons_append,List.nil_append,List.set_cons_zero,List.set_cons_succ,List.length_cons,List.length_nil,List.length_set];refine aN.at dM (X:={zz:Nat×Nat×List (List Int) // (zz.1≤l.length∧zz.2.1<zz.1)∧zz.2.2.length=l.length∧zz.2.2.take zz.2.1=flt q (l.take zz.1)∧zz.2.2.drop zz.1=l.drop zz.1}) (fun zz=>[(5,.v (.int .i64 zz.1.2.1)),(6,.v (.int .i64 zz.1.1))]) (fun zz=>[(.b 0,.arr 1 (E cC zz.1.2.2) false)]) (fun zz=>l.length-zz.1.1) ⟨(i0+1,i0,l),⟨show i0+1≤l.length by omega,show i0<i0+1 by omega⟩,rfl,?_,rfl⟩ ?_ ?_
  ·show l.take i0=flt q (l.take (i0+1))
   rw[xJ hi0,aE9 hall,hq0];simp
  ·exact le0
  ·rintro⟨⟨j,i,m⟩,⟨hj,hij⟩,hm,ht,hd⟩;dsimp only at hj hij hm ht hd;simp -dsimp only[go_sem];refine Br.mk (fun hc=>?_) fun hc=>?_
   ·have hlt:j<l.length:=by simpa using hc
    have hw:=aG hlt hl;have hwi:=aG (show i<l.length by omega) hl;have hjm:j<m.length:=by omega
    have him:i<m.length:=by omega
    have hmj:m[j]=l[j]:=by
     have h1:=congrArg (fun x=>x[0]?) hd;simpa[List.getElem?_drop,hjm,hlt] using h1
    have hgm:(E cC m).getD j []=[.sl 1 (E cI l[j])]:=by rw[aX hjm,hmj];rfl
    have hgi:(E cC m).getD i []=[.sl 1 (E cI m[i])]:=aX him;have hlm:(E cC m).length=l.length:=by rw[aH];exact hm
    have hcj:Vs.Fn Tryz.prog g [] (.agg [.sl 1 (E cI l[j])]::caps) (.v (.bool (q l[j]))) []:=hq _ (List.getElem_mem hlt);have hsm:=aMx m i l[j]
    have hdd:m.drop (j+1)=l.drop (j+1):=by
     have h1:=congrArg (List.drop 1) hd;simpa[List.drop_drop] using h1
    cases hqj:q l[j]
    ·have htt:(m.set i l[j]).take (i+1)=flt q (l.take (j+1)):=by
      rw[xJ hlt,hqj,←ht,bL (show i<(m.set i l[j]).length by simpa using him)];simp only[List.append_cancel_right_eq,List.getElem_set_self,if_false,Bool.false_eq_true];rw[List.take_set_of_le (Nat.le_refl _)]
     have hd2:(m.set i l[j]).drop (j+1)=l.drop (j+1):=by rw[List.drop_set_of_lt (by omega),hdd]
     repeat' first|simp -dsimp only[go_sem,hw,hwi,hgm,hgi,hlm,hsm,hqj,aF hcaps _ 6,aF hcaps _ 7,aDj hcaps,List.replicate_succ,List.replicate_zero,List.flatten_cons,List.flatten_nil,List.cons_append,List.nil_append,List.set_cons_zero,List.set_cons_succ,List.length_cons,List.length_nil,List.length_set]|apply Br.mk<;>intro h<;>try simp -dsimp only[h]|refine aA.c (by first|exact hcj) ?_|refine aC ?_|fail
     all_goals first|omega|(exact⟨⟨(j+1,i+1,m.set i l[j]),⟨by dsimp only;omega,by dsimp only;omega⟩,by simpa using hm,htt,hd2⟩,by simp[Vs.LeL,Vs.look,Vs.aB,Vs.aP,Vs.aK,Vs.hset,Vs.aL],by simp only;omega⟩)
    ·have htt:m.take i=flt q (l.take (j+1)):=by rw[xJ hlt,hqj,←ht];simp
     repeat' first|simp -dsimp only[go_sem,hw,hwi,hgm,hgi,hlm,hsm,hqj,aF hcaps _ 6,aF hcaps _ 7,aDj hcaps,List.replicate_succ,List.replicate_zero,List.flatten_cons,List.flatten_nil,List.cons_append,List.nil_append,List.set_cons_zero,List.set_cons_succ,List.length_cons,List.length_nil,List.length_set]|apply Br.mk<;>intro h<;>try simp -dsimp only[h]|refine aA.c (by first|exact hcj) ?_|refine aC ?_|fail
     all_goals first|omega|(exact⟨⟨(j+1,i,m),⟨by dsimp only;omega,by dsimp only;omega⟩,hm,htt,hdd⟩,by simp[Vs.LeL,Vs.look,Vs.aB,Vs.aP,Vs.aK,Vs.hset,Vs.aL],by simp only;omega⟩)
   ·have hge:j=l.length:=by
     have:¬j<l.length:=by simpa using hc
     omega
    subst hge;rw[List.take_length] at ht;have hfi:(flt q l).length=i:=by rw[←ht];simp;omega
    have hlm:(E cC m).length=l.length:=by rw[aH];exact hm
    have hcl:=aK5 hm (show i≤l.length by omega);rw[ht] at hcl;have hti:((l.length:Int)-(i:Int)).toNat=l.length-i:=by omega
    rw[hfi];simp -dsimp only[go_sem,hlm,hcl,hti,List.replicate_succ,List.replicate_zero,List.flatten_cons,List.flatten_nil,List.cons_append,List.nil_append,List.set_cons_zero,List.set_cons_succ,List.length_cons,List.length_nil,List.length_set];have hti2:((i:Int)-0).toNat=i:=by omega
    rw[hti2];exact⟨⟨⟨by omega,by omega,by omega⟩,by omega,⟨by omega,by omega,by omega⟩,⟨[],[],rfl,rfl⟩⟩,fun h=>h rfl⟩
end
section
variable [Vs.Envs]
attribute [local irreducible] Vs.Fn cZ aW dB dC l03 chB rk cd3 chI stp aZ flt sD zR aAF
attribute [local irreducible] bG
def vZ (fr to:Int) (o:List (List Int)) (x:List Int):Bool:=o.any fun c=>cmF fr to c x==0
def mat (fr to:Int) (l o:List (List Int)) (e:Bool):List (List Int):=flt (fun x=>!(vZ fr to o x==e)) l
theorem aKG (x:List Int) (o:List (List Int)) (fr to:Int) (e:Bool) (hx:okF fr to x) (ho:∀c,c∈o→okF fr to c) (hl:o.length≤1048576):Fz F.gD [.agg (cC x),.ro [.sl 1 (E cC o)],.ro (cFd fr to),.ro [.v (.bool e)]] (.v (.bool (!(vZ fr to o x==e)))):=by
 refine fn0 Cd.i_MatchDecks_1_1_k fun X=>?_
 repeat' first|simp -dsimp only[go_sem,cC,cFd,List.replicate_succ,List.replicate_zero,List.flatten_cons,List.flatten_nil,List.cons_append,List.nil_append,List.set_cons_zero,List.set_cons_succ,List.length_cons,List.length_nil,List.length_set]|apply Br.mk<;>intro h<;>try simp -dsimp only[h]|refine aA.c (by first|exact aJf o x fr to hx ho hl) ?_|refine aC ?_|fail
 all_goals(simp_all [vZ])
theorem aA.borL {P:Program}{f:FuncId}{b:Blk}{ys:List AV}{L:List Vs.Name}{d:Option Nat}{σ:St}{n:Vs.Name}{K:St→Prop}{t:Tag K}{r:AV}{hout:List (Option Blk)} (hfn:Vs.Fn P f [b] ys r hout) (hfr:jL (d.getD 0) 1 hout.length σ=true)
  (hK:K ⟨put d (rn (phi [n] (d.getD 0) hout.length) r) σ.s,xR σ.h [n] (d.getD 0) hout true L⟩):aA P f [b] ys L d σ [n] K t:=
 ⟨r,hout,true,hfn,fun h=>(by cases h),hfr,hK⟩
theorem aEw (m:List (List Int)) (k:Nat):(E cC m++zR k).take m.length=E cC m:=by
 have:m.length=(E cC m).length:=(aH ..).symm;rw[this,List.take_left'];rfl
theorem aDV (l o:List (List Int)) (fr to:Int) (e:Bool) (hs:∀x,x∈l→x.length≤1048576) (hl:l.length≤1048576) (ho2:o.length≤1048576) (hx:∀c,c∈l→okF fr to c) (ho:∀c,c∈o→okF fr to c) :
  Fz F.kQ [.sl 1 (E cC l),.sl 1 (E cC o),.v (.bool e),.ro (cFd fr to)] (.sl 1 (E cC (mat fr to l o e))):=by
 have hd:=delF (fun x=>!(vZ fr to o x==e)) F.gD [.ro [.sl 1 (E cC o)],.ro (cFd fr to),.ro [.v (.bool e)]] rfl l hl (fun x hx'=>aKG x o fr to e (hx x hx') ho ho2);refine fn0 Cd.i_MatchDecks_1_k fun X=>?_;simp -dsimp only[go_sem,cC,cFd,List.replicate_succ,List.replicate_zero,List.flatten_cons,List.flatten_nil,List.cons_append,List.nil_append,List.set_cons_zero,List.set_cons_succ,List.length_cons,List.length_nil,List.length_set];refine aA.own (vE l hs hl) rfl ?_;simp -dsimp only[go_sem,cC,cFd,List.replicate_succ,List.replicate_zero,List.flatten_cons,List.flatten_nil,List.cons_append,List.nil_append,List.set_cons_zero,List.set_cons_succ,List.length_cons,List.length_nil,List.length_set,List.flatMap_cons,List.flatMap_nil,bC,bO,bB,List.getD_cons_zero,List.append_nil];refine⟨rfl,aA.borL hd rfl ?_⟩;simp -dsimp only[go_sem,cC,cFd,List.replicate_succ,List.replicate_zero,List.flatten_cons,List.flatten_nil,List.cons_append,List.nil_append,List.set_cons_zero,List.set_cons_succ,List.length_cons,List.length_nil,List.length_set];have hr:=aEw (flt (fun x=>!(vZ fr to o x==e)) l) (l.length-(flt (fun x=>!(vZ fr to o x==e)) l).length);have hlen:(flt (fun x=>!(vZ fr to o x==e)) l).length≤l.length:=vN ..
 have hm:mat fr to l o e=flt (fun x=>!(vZ fr to o x==e)) l:=rfl;rw[hm];simp -dsimp only[go_sem,List.getElem?_cons_zero,List.drop_zero,aH,List.length_append,hr];exact⟨_,_,rfl,rfl⟩
def mtC (fr to:Int) (a b:List (List Int)):Int:=if kH fr to [a,b]=0 then(if iW fr to a&&iW fr to b then 0 else 6) else kH fr to [a,b]
def mtL (fr to:Int) (a b:List (List Int)):List (List (List Int)):=[mat fr to a b true,mat fr to b a true,mat fr to a b false,mat fr to b a false]
def mtV (fr to:Int) (a b:List (List Int)):AV:=if mtC fr to a b=0 then .sl 1 (E cD (mtL fr to a b)) else .v (.slice none 0 0)
theorem aBI {fr to:Int}{a b:List (List Int)} (h:kH fr to [a,b]=0):(aS a=true∧aS b=true)∧(dJ fr to (aT a)=true∧dJ fr to (aT b)=true)∧bI fr to a=true∧bI fr to b=true:=by
 unfold kH at h;split at h
 ·rename_i h1;split at h
  ·rename_i h2;split at h
   ·rename_i h3;simp only[List.all_cons,List.all_nil,Bool.and_true,Bool.and_eq_true] at h1 h2 h3;exact⟨h1,h2,h3⟩
   ·cases h
  ·cases h
 ·cases h
theorem zS {a b:List (List Int)} (ha:bA a) (hb:bA b):aFB [a,b]:=by
 refine⟨by simp,fun d hd=>?_⟩;simp only[List.mem_cons,List.not_mem_nil,or_false] at hd;rcases hd with rfl|rfl<;>assumption
attribute [local irreducible] mat kH iW
attribute [local go_sem] List.replicate_succ List.replicate_zero List.flatten_cons List.flatten_nil List.cons_append List.nil_append List.set_cons_zero List.set_cons_succ List.length_cons List.length_nil List.length_set List.take_succ_cons List.take_zero List.drop_succ_cons List.drop_zero in
theorem aBt (a b:List (List Int)) (fr to:Int) (ha:bA a) (hb:bA b):Fz F.nA [.sl 1 (E cC a),.sl 1 (E cC b),.agg (cFd fr to)] (.tup [mtV fr to a b,.v (.int .i64 (mtC fr to a b))]):=by
 have e2:[[AV.sl 1 (E cC a)],[AV.sl 1 (E cC b)]]=E cD [a,b]:=rfl;by_cases hc:kH fr to [a,b]=0
 rotate_left
 ·have e1:(kH fr to [a,b] != 0)=true:=by simp[hc]
  refine fn0 Cd.i_MatchDecks_k fun X=>?_
  repeat' first|simp -dsimp only[go_sem,cFd,e2,e1]|apply Br.mk<;>intro h<;>try simp -dsimp only[h]|refine aA.c (by first|exact uQ fr to [a,b] (zS ha hb)) ?_|refine aC ?_|fail
  all_goals simp[mtV,mtC,hc]
 obtain⟨⟨da,db⟩,⟨fa,fb⟩,ca,cb⟩:=aBI hc;have oa:=dW da fa;have ob:=dW db fb;cases hs:iW fr to a&&iW fr to b
 ·have hn:(!iW fr to a||!iW fr to b)=true:=by
   cases h1:iW fr to a<;>cases h2:iW fr to b<;>simp_all
  refine fn0 Cd.i_MatchDecks_k fun X=>?_
  repeat' first|simp -dsimp only[go_sem,cFd,e2,hc]|apply Br.mk<;>intro h<;>try simp -dsimp only[h]|refine aA.c (by first|exact uQ fr to [a,b] (zS ha hb)|exact aV a fr to oa ha.1|exact aV b fr to ob hb.1) ?_|refine aC ?_|fail
  all_goals first|(simp_all [mtV,mtC];done)|(refine aO ?_;simp_all [mtV,mtC];done)
 have h1:iW fr to a=true:=by simp only[Bool.and_eq_true] at hs;exact hs.1
 have h2:iW fr to b=true:=by simp only[Bool.and_eq_true] at hs;exact hs.2
 refine fn0 Cd.i_MatchDecks_k fun X=>?_
 repeat' first|simp -dsimp only[go_sem,cFd,e2,hc,h1,h2]|apply Br.mk<;>intro h<;>try simp -dsimp only[h]|refine aA.c (by first|exact uQ fr to [a,b] (zS ha hb)|exact aV a fr to oa ha.1|exact aV b fr to ob hb.1|exact aDV a b fr to true ha.2 ha.1 hb.1 oa ob|exact aDV b a fr to true hb.2 hb.1 ha.1 ob oa|exact aDV a b fr to false ha.2 ha.1 hb.1 oa ob|exact aDV b a fr to false hb.2 hb.1 ha.1 ob oa) ?_|refine aC ?_|fail
 all_goals (have hz:mtC fr to a b=0:=by simp[mtC,hc,hs]
            have hv:mtV fr to a b=.sl 1 (E cD (mtL fr to a b)):=by simp[mtV,hz]
            rw[hz,hv]

            first|exact⟨_,_,rfl,rfl⟩|(refine aO rfl))
end
section
variable [Vs.Envs]
attribute [local irreducible] Vs.Fn cZ aW dB dC l03 chB rk cd3 chI stp aZ stb
theorem aFz (g:FuncId) (caps:List AV) (hcaps:jD caps=true) (cf:Int→Int→Int) (D:Int→Prop) (hc:aAK Tryz.prog g caps cf D) (l:List Int) (hD:∀x,x∈l→D x) (hl:l.length≤40) :
  Vs.Fn Tryz.prog F.iP [.arr 1 (E cI l) false] [.loc (.b 0) 0 l.length,.fn g caps] (.tup []) [some (.arr 1 (E cI (stb (ltf cf) l)) false)]:=by
 have ST:=stable g caps hcaps cf D hc l hD hl;refine fn1 Cd.sortst___int64_k [.b 0] [.arr 1 (E cI (stb (ltf cf) l)) false] fun X=>?_;unfold Cd.iP
 repeat' first|simp -dsimp only[go_sem,List.flatMap_cons,List.flatMap_nil,bC,bO,bB,List.getD_cons_zero,List.append_nil,List.nil_append,List.cons_append,aF hcaps _ 6,aF hcaps _ 7,aH]|apply Br.mk<;>intro h<;>try simp -dsimp only[h]|refine aA.bor (by first|exact ST) rfl ?_|refine aC ?_|fail
 all_goals first|exact⟨_,_,rfl,rfl⟩
def cfO (fr to:Int) (l:List (List Int)) (i j:Int):Int:=cmF fr to (l.getD i.toNat []) (l.getD j.toNat [])
def inO (n:Nat) (x:Int):Prop:=0≤x∧x<(n:Int)
theorem aA2 {l:List (List Int)}{x:Int} (h:inO l.length x):(E cC l).getD x.toNat []=[.sl 1 (E cI (l.getD x.toNat []))]:=by
 have hlt:x.toNat<l.length:=by have:=h.1;have:=h.2;omega
 rw[aX hlt];simp[cC,List.getD,hlt]
theorem mU {l:List (List Int)}{x:Int} (h:inO l.length x):l.getD x.toNat []∈l:=by
 have hlt:x.toNat<l.length:=by have:=h.1;have:=h.2;omega
 have e:l.getD x.toNat []=l[x.toNat]:=by simp[List.getD,hlt]
 rw[e];exact List.getElem_mem hlt
theorem aIL (l:List (List Int)) (fr to:Int) (ho:∀c,c∈l→okF fr to c):aAK Tryz.prog F.mF [.ro [.sl 1 (E cC l)],.ro (cFd fr to)] (cfO fr to l) (inO l.length):=by
 intro x y hx hy;have gx:=aA2 hx;have gy:=aA2 hy;have x0:=hx.1;have x1:=hx.2;have y0:=hy.1;have y1:=hy.2;have C:=lI (l.getD x.toNat []) (l.getD y.toNat []) fr to (ho _ (mU hx)) (ho _ (mU hy));rw[show cmF fr to (l.getD x.toNat []) (l.getD y.toNat [])=cfO fr to l x y from rfl] at C;refine fn0 Cd.i_orderBy_1_k fun X=>?_
 repeat' first|simp -dsimp only[go_sem,cC,cFd,gx,gy,aH]|apply Br.mk<;>intro h<;>try simp -dsimp only[h]|refine aA.c (by first|exact C) ?_|refine aC ?_|fail
 all_goals first|exact⟨_,_,rfl,rfl⟩|simp
def iota (n:Nat):List Int:=(List.range n).map fun i:Nat=>(i:Int)
theorem aDf (n:Nat):iota (n+1)=iota n++[(n:Int)]:=by simp[iota,List.range_succ]
theorem mW (n:Nat):(iota n).length=n:=by simp[iota]
theorem aBE {n:Nat}:∀x,x∈iota n→inO n x:=by
 intro x hx;obtain⟨i,hi,rfl⟩:=List.mem_map.1 hx;have:=List.mem_range.1 hi;exact⟨by omega,by omega⟩
def oW (fr to:Int) (l:List (List Int)):List Int:=stb (ltf (cfO fr to l)) (iota l.length)
theorem wT (fr to:Int) (l:List (List Int)):(oW fr to l).length=l.length:=by rw[oW,aFw,mW]
attribute [local go_sem] aH in
theorem aKy (l:List (List Int)) (fr to:Int) (ho:∀c,c∈l→okF fr to c) (hl:l.length≤40):Fz F.uF [.sl 1 (E cC l),.agg (cFd fr to)] (.sl 1 (E cI (oW fr to l))):=by
 refine fn0 Cd.i_orderBy_k fun X=>?_
 repeat' first|simp -dsimp only[go_sem,cC,cFd]|apply Br.mk<;>intro h<;>try simp -dsimp only[h]|refine aC ?_|fail
 refine aN.at dM (X:={zz:Nat×(Unit) // zz.1≤l.length∧True}) (fun zz=>[(5,.loc (.t 5 0) 0 zz.1.1),(10,.v (.int .i64 zz.1.1))]) (fun zz=>[(.t 5 0,.arr 1 (E cI (iota zz.1.1)) false)]) (fun zz=>l.length-zz.1.1) ⟨(0,()),by omega,trivial⟩ ?_ ?_
 ·simp[Vs.LeL,Vs.look,Vs.aB,Vs.aP,Vs.aK,Vs.hset,Vs.aL,Vs.E,iota]
 ·rintro⟨⟨i,_⟩,hi,hg⟩;dsimp only at hi hg;simp -dsimp only[go_sem,cC,cFd,mW,List.mem_singleton,List.mem_cons,List.not_mem_nil,or_false,false_or,Vs.Name.t.injEq,List.flatMap_cons,List.flatMap_nil,bC,bO,bB,List.getD_cons_zero,List.append_nil,List.nil_append,List.cons_append];refine Br.mk (fun hc=>?_) fun hc=>?_
  ·have hlt:i<l.length:=Dq;have hw:=aG hlt (by omega);have hap:E cI (iota i)++[[.v (.int .i64 (i:Int))]]=E cI (iota (i+1)):=by rw[aDf,aY];rfl
   repeat' first|simp -dsimp only[go_sem,hw,hap,cC,cFd,mW,List.mem_singleton,List.mem_cons,List.not_mem_nil,or_false,false_or,Vs.Name.t.injEq,List.flatMap_cons,List.flatMap_nil,bC,bO,bB,List.getD_cons_zero,List.append_nil,List.nil_append,List.cons_append]|apply Br.mk<;>intro h<;>try simp -dsimp only[h]|refine aC ?_|fail
   all_goals first|omega|(exact nx (i+1,()) trivial (h2:=by simp[Vs.LeL,Vs.look,Vs.aB,Vs.aP,Vs.aK,Vs.hset,Vs.aL,hap]))
  ·have hge:i=l.length:=by
    have:¬i<l.length:=Dq;omega
   subst hge;simp -dsimp only[go_sem,cC,cFd,mW,List.mem_singleton,List.mem_cons,List.not_mem_nil,or_false,false_or,Vs.Name.t.injEq,List.flatMap_cons,List.flatMap_nil,bC,bO,bB,List.getD_cons_zero,List.append_nil,List.nil_append,List.cons_append];have ST:=aFz F.mF [.ro [.sl 1 (E cC l)],.ro (cFd fr to)] rfl (cfO fr to l) (inO l.length) (aIL l fr to ho) (iota l.length) aBE (by rw[mW];exact hl);rw[show stb (ltf (cfO fr to l)) (iota l.length)=oW fr to l from rfl,mW] at ST;refine⟨⟨rfl,aA.borL ST rfl ?_⟩,fun h=>h rfl⟩;simp -dsimp only[go_sem,wT fr to l,List.mem_singleton,List.mem_cons,List.not_mem_nil,or_false,false_or,Vs.Name.t.injEq,List.flatMap_cons,List.flatMap_nil,bC,bO,bB,List.getD_cons_zero,List.append_nil,List.nil_append,List.cons_append];have htk:(E cI (oW fr to l)).take l.length=E cI (oW fr to l):=List.take_of_length_le (by rw[aH,wT fr to l];exact Nat.le_refl _)
   first|exact⟨_,_,rfl,rfl⟩|(simp only[htk];exact⟨_,_,rfl,rfl⟩)
theorem aA1:∀(a b:List Int),a.length=b.length→jC b a=- jC a b
 | [],[],_=>rfl
 | x::a,y::b,h=>by
  have ih:=aA1 a b (by simpa using h);simp only[jC];by_cases h1:rk x<rk y
  ·have h2:¬rk y<rk x:=by omega
   have h3:rk y>rk x:=by omega
   simp[h1,h2,h3]
  ·by_cases h2:rk y<rk x
   ·simp[h1,h2]
   ·simp[h1,h2,ih]
 | [],_::_,h=>by simp at h
 |_::_,[],h=>by simp at h
theorem aDt:∀(a b c:List Int),a.length=b.length→b.length=c.length→jC a b=0→jC a c=jC b c
 | [],[],c,_,_,_=>rfl
 |x::a,y::b,[],_,h,_=>by simp at h
 | x::a,y::b,z::c,h1,h2,h=>by
  simp only[jC] at h⊢;split at h
  ·cases h
  ·split at h
   ·cases h
   ·have ih:=aDt a b c (by simpa using h1) (by simpa using h2) h;have e:rk x=rk y:=by omega
    rw[e,ih]
 | [],_::_,_,h,_,_=>by simp at h
 |_::_,[],_,h,_,_=>by simp at h
theorem aCu:∀(a b c:List Int),a.length=b.length→b.length=c.length→jC a b<0→jC b c≤0→jC a c<0
 | [],[],c,_,_,h,_=>by simp[jC] at h
 |x::a,y::b,[],_,h,_,_=>by simp at h
 | x::a,y::b,z::c,h1,h2,h,h'=>by
  simp only[jC] at h h'⊢;split at h
  ·split at h'
   ·rw[if_pos (by omega)];omega
   ·split at h'
    ·omega
    ·rw[if_pos (by omega)];omega
  ·split at h
   ·omega
   ·split at h'
    ·rw[if_pos (by omega)];omega
    ·split at h'
     ·omega
     ·rw[if_neg (by omega),if_neg (by omega)];exact aCu a b c (by simpa using h1) (by simpa using h2) h h'
 | [],_::_,_,h,_,_,_=>by simp at h
 |_::_,[],_,h,_,_,_=>by simp at h
end
section
variable [Vs.Envs]
attribute [local irreducible] Vs.Fn cZ aW dB dC l03 chB rk cd3 chI stp aZ stb
def wS (fr to:Int) (l:List (List Int)) (x y:Int):Prop:=(inO l.length x∧inO l.length y)∧(cfO fr to l x y<0∨(cfO fr to l x y=0∧x<y))
section
variable {fr to:Int}{l:List (List Int)} (ho:∀c,c∈l→okF fr to c)
include ho
theorem pY {x:Int} (hx:inO l.length x):(fH fr to (l.getD x.toNat [])).length=to.toNat-fr.toNat:=lC (ho _ (mU hx))
theorem aBK {x y:Int} (hx:inO l.length x) (hy:inO l.length y):cfO fr to l y x=- cfO fr to l x y:=aA1 _ _ (by rw[pY ho hx,pY ho hy])
theorem aK9 {x y z:Int} (hx:inO l.length x) (hy:inO l.length y) (hz:inO l.length z) (h:cfO fr to l x y=0):cfO fr to l x z=cfO fr to l y z:=
 aDt _ _ _ (by rw[pY ho hx,pY ho hy]) (by rw[pY ho hy,pY ho hz]) h
theorem aJH {x y z:Int} (hx:inO l.length x) (hy:inO l.length y) (hz:inO l.length z) (h:cfO fr to l x y<0) (h':cfO fr to l y z≤0):cfO fr to l x z<0:=
 aCu _ _ _ (by rw[pY ho hx,pY ho hy]) (by rw[pY ho hy,pY ho hz]) h h'
theorem lS (x y z:Int) (h1:wS fr to l x y) (h2:wS fr to l y z):wS fr to l x z:=by
 obtain⟨⟨hx,hy⟩,h1⟩:=h1;obtain⟨⟨_,hz⟩,h2⟩:=h2;refine⟨⟨hx,hz⟩,?_⟩;rcases h1 with h1|⟨h1,h3⟩
 ·exact .inl (aJH ho hx hy hz h1 (by omega))
 ·rw[aK9 ho hx hy hz h1];rcases h2 with h2|⟨h2,h4⟩
  ·exact .inl h2
  ·exact .inr ⟨h2,by omega⟩
theorem aAQ (x y:Int) (h1:wS fr to l x y):¬wS fr to l y x:=by
 rintro⟨⟨hy,hx⟩,h2⟩;have e:=aBK ho hx hy;have h1:=h1.2;omega
theorem aHN:(iota l.length).Pairwise (aCU (ltf (cfO fr to l)) (wS fr to l)):=by
 unfold iota;rw[List.pairwise_map];refine List.Pairwise.imp_of_mem (R:=fun a b=>a<b) ?_ List.pairwise_lt_range;intro a b ha hb hab;have hx:inO l.length (a:Int):=⟨by omega,by have:=List.mem_range.1 ha;omega⟩;have hy:inO l.length (b:Int):=⟨by omega,by have:=List.mem_range.1 hb;omega⟩;have e:=aBK ho hx hy;refine⟨?_,?_⟩
 ·simp only[ltf,decide_eq_true_eq];exact⟨fun h=>⟨⟨hy,hx⟩,.inl h⟩,fun h=>by have:=h.2;omega⟩
 ·by_cases h:cfO fr to l b a<0
  ·exact .inr ⟨⟨hy,hx⟩,.inl h⟩
  ·refine .inl ⟨⟨hx,hy⟩,?_⟩;by_cases h0:cfO fr to l a b=0
   ·exact .inr ⟨h0,by omega⟩
   ·exact .inl (by omega)
theorem aB4 (hl:l.length≤40):(oW fr to l).Perm (iota l.length)∧(oW fr to l).Pairwise (wS fr to l):=
 aJ9 (lS ho) (aAQ ho) (by rw[mW];exact hl) (aHN ho)
theorem aDR (hl:l.length≤40):∀x,x∈oW fr to l→inO l.length x:=fun x hx=>aBE x ((aB4 ho hl).1.mem_iff.1 hx)
end
attribute [local irreducible] oW
def bQ (fr to:Int) (l:List (List Int)):List (List Int):=(oW fr to l).map fun i=>l.getD i.toNat []
attribute [local go_sem] aH List.replicate_succ List.replicate_zero List.flatten_cons List.flatten_nil List.cons_append List.nil_append List.set_cons_zero List.set_cons_succ List.length_cons List.length_nil List.length_set in
theorem wH (l:List (List Int)) (fr to:Int) (ho:∀c,c∈l→okF fr to c) (hl:l.length≤40):Fz F.lW [.sl 1 (E cC l),.agg (cFd fr to)] (.sl 1 (E cC (bQ fr to l))):=by
 have OB:=aKy l fr to ho hl;have hol:=wT fr to l;have hoi:=aDR ho hl;rw[show bQ fr to l=(oW fr to l).map (fun i=>l.getD i.toNat []) from rfl];generalize oW fr to l=o at *
 refine fn0 Cd.i_sortedBy_k fun X=>?_
 repeat' first|simp -dsimp only[go_sem,cC,cFd]|apply Br.mk<;>intro h<;>try simp -dsimp only[h]|refine aA.c (by first|exact OB) ?_|refine aC ?_|fail
 refine aN.at dM (X:={zz:Nat×(Unit) // zz.1≤o.length∧True}) (fun zz=>[(5,.loc (.t 5 0) 0 zz.1.1),(13,.v (.int .i64 zz.1.1))]) (fun zz=>[(.t 5 0,.arr 1 (E cC ((o.take zz.1.1).map fun i=>l.getD i.toNat [])) false)]) (fun zz=>o.length-zz.1.1) ⟨(0,()),by omega,trivial⟩ ?_ ?_
 ·simp[Vs.LeL,Vs.look,Vs.aB,Vs.aP,Vs.aK,Vs.hset,Vs.aL,Vs.E]
 ·rintro⟨⟨i,_⟩,hi,hg⟩;dsimp only at hi hg;simp -dsimp only[go_sem,cC,cFd];refine Br.mk (fun hc=>?_) fun hc=>?_
  ·have hlt:i<o.length:=Dq;have hw:=aG hlt (by omega);have hx:=hoi _ (List.getElem_mem hlt);have gx:=aA2 hx;have hm:=mU hx;have hc20:(l.getD o[i].toNat []).length≤20:=(ho _ hm).2.2.2;have NC:=aAg (l.getD o[i].toNat []) (by omega);have x0:=hx.1;have x1:=hx.2
   have hap:E cC ((o.take i).map fun i=>l.getD i.toNat [])++[[.sl 1 (E cI (l.getD o[i].toNat []))]]=E cC ((o.take (i+1)).map fun i=>l.getD i.toNat []):=by
    rw[bL hlt,List.map_append,aY];rfl
   have hal:(E cC ((o.take i).map fun i=>l.getD i.toNat [])).length=i:=by rw[aH];simp;omega
   repeat' first|simp -dsimp only[go_sem,dK hlt,hw,hap,hal,gx,cC,cFd]|apply Br.mk<;>intro h<;>try simp -dsimp only[h]|refine aA.c (by first|exact NC) ?_|refine aC ?_|fail
   all_goals first|omega|(exact nx (i+1,()) trivial (h2:=by simp[Vs.LeL,Vs.look,Vs.aB,Vs.aP,Vs.aK,Vs.hset,Vs.aL,hap]))
  ·have hge:i=o.length:=by
    have:¬i<o.length:=Dq;omega
   subst hge;simp -dsimp only[go_sem,cC,cFd]
   have htk:(E cC ((o.take o.length).map fun i=>l.getD i.toNat [])).take o.length=E cC (o.map fun i=>l.getD i.toNat []):=by
    rw[List.take_of_length_le (Nat.le_refl o.length)];exact List.take_of_length_le (by rw[aH];simp)
   first|exact⟨⟨_,_,rfl,rfl⟩,fun h=>h rfl⟩|(rw[htk];exact⟨⟨_,_,rfl,rfl⟩,fun h=>h rfl⟩)|(simp[htk];done)
end
end Go.Proofs.YthbnjmgjhonfbaaGreat
