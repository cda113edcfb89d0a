/- Cards are sorted: the program's way. -/
import Derived.Test.YthfnpdhpefialaaGreatYwC
import Derived.Test.YthfnpdhpefialaaGreatVtR
import Derived.Test.YthfnpdhpefialaaGreatYwSf
set_option linter.all false
set_option maxHeartbeats 8000000
namespace Go.Proofs.YthfnpdhpefialaaGreat
open Go.Vs
section
variable [Vs.Envs]
attribute [local irreducible] Vs.Fn chOK areCh chTo chAt l03 chB rk cd3 chI stp stpTo
attribute [local irreducible] keyC
attribute [local go_sem] cC List.replicate_succ List.replicate_zero List.flatten_cons List.flatten_nil List.cons_append List.nil_append List.set_cons_zero List.set_cons_succ List.length_cons List.length_nil List.length_set
def smallK (l:List (List (List Int))):Prop:=l.length≤1048576∧∀d,d∈l→smallC d
def colC (fr to:Int) (ls:List (List (List Int))):Int:=
 if ls.all deckB then(if ls.all (fun d=>fldB fr to (widB d)) then(if ls.all (allCh fr to) then 0 else 8) else 2) else 1
def colT (fr to:Int) (ts:List ByteArray) (ls:List (List (List Int))):Int:=
 if ls.all deckB then(if ls.all (fun d=>fldB fr to (widB d)) then(if ts.all (fun t=>(t.size:Int)==W (to-fr)) then(if ts.all areCh then(if ls.all (allCh fr to) then 0 else 8) else 7) else 2) else 2) else 1
theorem collate0 (fr to:Int) (ls:List (List (List Int))) (hk:smallK ls):Fz F.i_collateCode [.agg (cFd fr to),.v (.bool true),.v (.slice none 0 0),.sl 1 (E cD ls)] (.v (.int .i64 (colC fr to ls))):=by
 refine fn0 Cd.i_collateCode_k fun X=>?_
 simp -dsimp only[go_sem,cFd,cD]
 refine LoopK.at dM (X:={zz:Nat×(Unit) // zz.1≤ls.length∧(ls.take zz.1).all (deckB)=true}) (fun zz=>[(21,.v (.int .i64 zz.1.1))]) (fun zz=>[]) (fun zz=>ls.length-zz.1.1) ⟨(0,()),by omega,by simp⟩ ?_ ?_
 ·exact le0
 ·rintro⟨⟨i,_⟩,hi,hg⟩
  dsimp only at hi hg
  simp -dsimp only[go_sem,cFd,cD]
  refine Br.mk (fun hc=>?_) fun hc=>?_
  ·have hlt:i<ls.length:=Dq
   have hw:=wrap_succ hlt hk.1
   have hsm:=hk.2 _ (List.getElem_mem hlt)
   have hm:(E cD ls).getD i []=[.sl 1 (E cC ls[i])]:=E_get hlt
   cases hb:deckB ls[i]
   ·have hall:ls.all (deckB)=false:=not_all (p:=deckB) hlt hb
    repeat' first|simp -dsimp only[go_sem,hw,hm,hb,cFd,cD]|apply Br.mk<;>intro h<;>try simp -dsimp only[h]|refine CallK.c (by first|exact validDeck _ hsm.2 hsm.1) ?_|refine aC ?_|fail
    all_goals first|omega|(refine ret_eq ?_;simp[colC,hall];done)|(simp[colC,hall];done)
   ·simp -dsimp only[go_sem,hw,hm,hb,cFd,cD]
    repeat' first|simp -dsimp only[go_sem,hw,hm,hb,cFd,cD]|apply Br.mk<;>intro h<;>try simp -dsimp only[h]|refine CallK.c (by first|exact validDeck _ hsm.2 hsm.1) ?_|refine aC ?_|fail
    all_goals first|omega|(exact nx (i+1,()) (take_succ_all (p:=deckB) hlt hg hb))
  ·have hge:i=ls.length:=by
    have:¬i<ls.length:=Dq
    omega
   subst hge
   simp -dsimp only[go_sem,cFd,cD]
   have a1:ls.all (deckB)=true:=by simpa using hg
   clear hg hi hc
   refine⟨?_,by simp⟩
   refine LoopK.at dM (X:={zz:Nat×(Unit) // zz.1≤ls.length∧(ls.take zz.1).all ((fun d=>fldB fr to (widB d)))=true}) (fun zz=>[(33,.v (.int .i64 zz.1.1))]) (fun zz=>[]) (fun zz=>ls.length-zz.1.1) ⟨(0,()),by omega,by simp⟩ ?_ ?_
   ·exact le0
   ·rintro⟨⟨i,_⟩,hi,hg⟩
    dsimp only at hi hg
    simp -dsimp only[go_sem,cFd,cD]
    refine Br.mk (fun hc=>?_) fun hc=>?_
    ·have hlt:i<ls.length:=Dq
     have hw:=wrap_succ hlt hk.1
     have hsm:=hk.2 _ (List.getElem_mem hlt)
     have hm:(E cD ls).getD i []=[.sl 1 (E cC ls[i])]:=E_get hlt
     cases hb:(fun d=>fldB fr to (widB d)) ls[i]
     ·have hall:ls.all ((fun d=>fldB fr to (widB d)))=false:=not_all (p:=(fun d=>fldB fr to (widB d))) hlt hb
      repeat' first|simp -dsimp only[go_sem,hw,hm,hb,cFd,cD]|apply Br.mk<;>intro h<;>try simp -dsimp only[h]|refine CallK.c (by first|exact deckColumns _|exact isField fr to _) ?_|refine aC ?_|fail
      all_goals first|omega|(refine ret_eq ?_;simp[colC,hall,a1];done)|(simp[colC,hall,a1];done)
     ·simp -dsimp only[go_sem,hw,hm,hb,cFd,cD]
      repeat' first|simp -dsimp only[go_sem,hw,hm,hb,cFd,cD]|apply Br.mk<;>intro h<;>try simp -dsimp only[h]|refine CallK.c (by first|exact deckColumns _|exact isField fr to _) ?_|refine aC ?_|fail
      all_goals first|omega|(exact nx (i+1,()) (take_succ_all (p:=(fun d=>fldB fr to (widB d))) hlt hg hb))
    ·have hge:i=ls.length:=by
      have:¬i<ls.length:=Dq
      omega
     subst hge
     simp -dsimp only[go_sem,cFd,cD]
     have a2:ls.all ((fun d=>fldB fr to (widB d)))=true:=by simpa using hg
     clear hg hi hc
     refine⟨?_,by simp⟩
     refine LoopK.at dM (X:={zz:Nat×(Unit) // zz.1≤0∧True}) (fun zz=>[(45,.v (.int .i64 zz.1.1))]) (fun zz=>[]) (fun zz=>0-zz.1.1) ⟨(0,()),by omega,trivial⟩ ?_ ?_
     ·exact le0
     ·rintro⟨⟨i,_⟩,hi,hg⟩
      dsimp only at hi hg
      simp -dsimp only[go_sem,cFd,cD]
      refine Br.mk (fun hc=>?_) fun hc=>?_
      ·have hlt:i<0:=by have:=of_decide_eq_true hc;omega
       have hw:=wrap_succ hlt (by omega)
       exact absurd hlt (by omega)
      ·have hge:i=0:=by
        have:¬i<0:=by have:=of_decide_eq_false hc;omega
        omega
       subst hge
       simp -dsimp only[go_sem,cFd,cD]
       clear hg hi hc
       refine⟨?_,by simp⟩
       refine LoopK.at dM (X:={zz:Nat×(Unit) // zz.1≤0∧True}) (fun zz=>[(60,.v (.int .i64 zz.1.1))]) (fun zz=>[]) (fun zz=>0-zz.1.1) ⟨(0,()),by omega,trivial⟩ ?_ ?_
       ·exact le0
       ·rintro⟨⟨i,_⟩,hi,hg⟩
        dsimp only at hi hg
        simp -dsimp only[go_sem,cFd,cD]
        refine Br.mk (fun hc=>?_) fun hc=>?_
        ·have hlt:i<0:=by have:=of_decide_eq_true hc;omega
         have hw:=wrap_succ hlt (by omega)
         exact absurd hlt (by omega)
        ·have hge:i=0:=by
          have:¬i<0:=by have:=of_decide_eq_false hc;omega
          omega
         subst hge
         simp -dsimp only[go_sem,cFd,cD]
         clear hg hi hc
         refine⟨?_,by simp⟩
         refine LoopK.at dM (X:={zz:Nat×(Unit) // zz.1≤ls.length∧(ls.take zz.1).all ((allCh fr to))=true}) (fun zz=>[(70,.v (.int .i64 zz.1.1))]) (fun zz=>[]) (fun zz=>ls.length-zz.1.1) ⟨(0,()),by omega,by simp⟩ ?_ ?_
         ·exact le0
         ·rintro⟨⟨i,_⟩,hi,hg⟩
          dsimp only at hi hg
          simp -dsimp only[go_sem,cFd,cD]
          refine Br.mk (fun hc=>?_) fun hc=>?_
          ·have hlt:i<ls.length:=Dq
           have hw:=wrap_succ hlt hk.1
           have hsm:=hk.2 _ (List.getElem_mem hlt)
           have hm:(E cD ls).getD i []=[.sl 1 (E cC ls[i])]:=E_get hlt
           have hdk:deckB ls[i]=true:=(List.all_eq_true.1 a1) _ (List.getElem_mem hlt)
           have hfk:fldB fr to (widB ls[i])=true:=(List.all_eq_true.1 a2) _ (List.getElem_mem hlt)
           have hof:=okF_of hdk hfk
           cases hb:(allCh fr to) ls[i]
           ·have hall:ls.all ((allCh fr to))=false:=not_all (p:=(allCh fr to)) hlt hb
            repeat' first|simp -dsimp only[go_sem,hw,hm,hb,cFd,cD]|apply Br.mk<;>intro h<;>try simp -dsimp only[h]|refine CallK.c (by first|exact haveField _ fr to hof hsm.1) ?_|refine aC ?_|fail
            all_goals first|omega|(refine ret_eq ?_;simp[colC,hall,a1,a2];done)|(simp[colC,hall,a1,a2];done)
           ·simp -dsimp only[go_sem,hw,hm,hb,cFd,cD]
            repeat' first|simp -dsimp only[go_sem,hw,hm,hb,cFd,cD]|apply Br.mk<;>intro h<;>try simp -dsimp only[h]|refine CallK.c (by first|exact haveField _ fr to hof hsm.1) ?_|refine aC ?_|fail
            all_goals first|omega|(exact nx (i+1,()) (take_succ_all (p:=(allCh fr to)) hlt hg hb))
          ·have hge:i=ls.length:=by
            have:¬i<ls.length:=Dq
            omega
           subst hge
           simp -dsimp only[go_sem,cFd,cD]
           have a5:ls.all (allCh fr to)=true:=by simpa using hg
           simp[colC,a1,a2,a5]
theorem collateT (fr to:Int) (ls:List (List (List Int))) (hk:smallK ls) (ts:List ByteArray) (hts:ts.length≤1048576) (htz:∀t,t∈ts→t.size≤1048576):Fz F.i_collateCode [.agg (cFd fr to),.v (.bool true),.sl 1 (E cSt ts),.sl 1 (E cD ls)] (.v (.int .i64 (colT fr to ts ls))):=by
 refine fn0 Cd.i_collateCode_k fun X=>?_
 simp -dsimp only[go_sem,cFd,cD]
 refine LoopK.at dM (X:={zz:Nat×(Unit) // zz.1≤ls.length∧(ls.take zz.1).all (deckB)=true}) (fun zz=>[(21,.v (.int .i64 zz.1.1))]) (fun zz=>[]) (fun zz=>ls.length-zz.1.1) ⟨(0,()),by omega,by simp⟩ ?_ ?_
 ·exact le0
 ·rintro⟨⟨i,_⟩,hi,hg⟩
  dsimp only at hi hg
  simp -dsimp only[go_sem,cFd,cD]
  refine Br.mk (fun hc=>?_) fun hc=>?_
  ·have hlt:i<ls.length:=Dq
   have hw:=wrap_succ hlt hk.1
   have hsm:=hk.2 _ (List.getElem_mem hlt)
   have hm:(E cD ls).getD i []=[.sl 1 (E cC ls[i])]:=E_get hlt
   cases hb:deckB ls[i]
   ·have hall:ls.all (deckB)=false:=not_all (p:=deckB) hlt hb
    repeat' first|simp -dsimp only[go_sem,hw,hm,hb,cFd,cD]|apply Br.mk<;>intro h<;>try simp -dsimp only[h]|refine CallK.c (by first|exact validDeck _ hsm.2 hsm.1) ?_|refine aC ?_|fail
    all_goals first|omega|(refine ret_eq ?_;simp[colT,hall];done)|(simp[colT,hall];done)
   ·simp -dsimp only[go_sem,hw,hm,hb,cFd,cD]
    repeat' first|simp -dsimp only[go_sem,hw,hm,hb,cFd,cD]|apply Br.mk<;>intro h<;>try simp -dsimp only[h]|refine CallK.c (by first|exact validDeck _ hsm.2 hsm.1) ?_|refine aC ?_|fail
    all_goals first|omega|(exact nx (i+1,()) (take_succ_all (p:=deckB) hlt hg hb))
  ·have hge:i=ls.length:=by
    have:¬i<ls.length:=Dq
    omega
   subst hge
   simp -dsimp only[go_sem,cFd,cD]
   have a1:ls.all (deckB)=true:=by simpa using hg
   clear hg hi hc
   refine⟨?_,by simp⟩
   refine LoopK.at dM (X:={zz:Nat×(Unit) // zz.1≤ls.length∧(ls.take zz.1).all ((fun d=>fldB fr to (widB d)))=true}) (fun zz=>[(33,.v (.int .i64 zz.1.1))]) (fun zz=>[]) (fun zz=>ls.length-zz.1.1) ⟨(0,()),by omega,by simp⟩ ?_ ?_
   ·exact le0
   ·rintro⟨⟨i,_⟩,hi,hg⟩
    dsimp only at hi hg
    simp -dsimp only[go_sem,cFd,cD]
    refine Br.mk (fun hc=>?_) fun hc=>?_
    ·have hlt:i<ls.length:=Dq
     have hw:=wrap_succ hlt hk.1
     have hsm:=hk.2 _ (List.getElem_mem hlt)
     have hm:(E cD ls).getD i []=[.sl 1 (E cC ls[i])]:=E_get hlt
     cases hb:(fun d=>fldB fr to (widB d)) ls[i]
     ·have hall:ls.all ((fun d=>fldB fr to (widB d)))=false:=not_all (p:=(fun d=>fldB fr to (widB d))) hlt hb
      repeat' first|simp -dsimp only[go_sem,hw,hm,hb,cFd,cD]|apply Br.mk<;>intro h<;>try simp -dsimp only[h]|refine CallK.c (by first|exact deckColumns _|exact isField fr to _) ?_|refine aC ?_|fail
      all_goals first|omega|(refine ret_eq ?_;simp[colT,hall,a1];done)|(simp[colT,hall,a1];done)
     ·simp -dsimp only[go_sem,hw,hm,hb,cFd,cD]
      repeat' first|simp -dsimp only[go_sem,hw,hm,hb,cFd,cD]|apply Br.mk<;>intro h<;>try simp -dsimp only[h]|refine CallK.c (by first|exact deckColumns _|exact isField fr to _) ?_|refine aC ?_|fail
      all_goals first|omega|(exact nx (i+1,()) (take_succ_all (p:=(fun d=>fldB fr to (widB d))) hlt hg hb))
    ·have hge:i=ls.length:=by
      have:¬i<ls.length:=Dq
      omega
     subst hge
     simp -dsimp only[go_sem,cFd,cD]
     have a2:ls.all ((fun d=>fldB fr to (widB d)))=true:=by simpa using hg
     clear hg hi hc
     refine⟨?_,by simp⟩
     refine LoopK.at dM (X:={zz:Nat×(Unit) // zz.1≤ts.length∧(ts.take zz.1).all ((fun t:ByteArray=>(t.size:Int)==W (to-fr)))=true}) (fun zz=>[(45,.v (.int .i64 zz.1.1))]) (fun zz=>[]) (fun zz=>ts.length-zz.1.1) ⟨(0,()),by omega,by simp⟩ ?_ ?_
     ·exact le0
     ·rintro⟨⟨i,_⟩,hi,hg⟩
      dsimp only at hi hg
      simp -dsimp only[go_sem,cFd,cD]
      refine Br.mk (fun hc=>?_) fun hc=>?_
      ·have hlt:i<ts.length:=Dq
       have hw:=wrap_succ hlt hts
       have hm:(E cSt ts).getD i []=[.v (.string ts[i])]:=E_get hlt
       have hne:((ts[i].size:Int) != IntKind.i64.wrap (to-fr)) = !((ts[i].size:Int)==W (to-fr)):=rfl
       cases hb:(fun t:ByteArray=>(t.size:Int)==W (to-fr)) ts[i]
       ·have hall:ts.all ((fun t:ByteArray=>(t.size:Int)==W (to-fr)))=false:=not_all (p:=(fun t:ByteArray=>(t.size:Int)==W (to-fr))) hlt hb
        repeat' first|simp -dsimp only[go_sem,hw,hm,hb,hne,Bool.not_true,Bool.not_false,cFd,cD]|apply Br.mk<;>intro h<;>try simp -dsimp only[h]|refine aC ?_|fail
        all_goals first|omega|(refine ret_eq ?_;simp[colT,hall,a1,a2];done)|(simp[colT,hall,a1,a2];done)
       ·simp -dsimp only[go_sem,hw,hm,hb,hne,Bool.not_true,Bool.not_false,cFd,cD]
        repeat' first|simp -dsimp only[go_sem,hw,hm,hb,hne,Bool.not_true,Bool.not_false,cFd,cD]|apply Br.mk<;>intro h<;>try simp -dsimp only[h]|refine aC ?_|fail
        all_goals first|omega|(exact nx (i+1,()) (take_succ_all (p:=(fun t:ByteArray=>(t.size:Int)==W (to-fr))) hlt hg hb))
      ·have hge:i=ts.length:=by
        have:¬i<ts.length:=Dq
        omega
       subst hge
       simp -dsimp only[go_sem,cFd,cD]
       have a3:ts.all ((fun t:ByteArray=>(t.size:Int)==W (to-fr)))=true:=by simpa using hg
       clear hg hi hc
       refine⟨?_,by simp⟩
       refine LoopK.at dM (X:={zz:Nat×(Unit) // zz.1≤ts.length∧(ts.take zz.1).all (areCh)=true}) (fun zz=>[(60,.v (.int .i64 zz.1.1))]) (fun zz=>[]) (fun zz=>ts.length-zz.1.1) ⟨(0,()),by omega,by simp⟩ ?_ ?_
       ·exact le0
       ·rintro⟨⟨i,_⟩,hi,hg⟩
        dsimp only at hi hg
        simp -dsimp only[go_sem,cFd,cD]
        refine Br.mk (fun hc=>?_) fun hc=>?_
        ·have hlt:i<ts.length:=Dq
         have hw:=wrap_succ hlt hts
         have hm:(E cSt ts).getD i []=[.v (.string ts[i])]:=E_get hlt
         cases hb:areCh ts[i]
         ·have hall:ts.all (areCh)=false:=not_all (p:=areCh) hlt hb
          repeat' first|simp -dsimp only[go_sem,hw,hm,hb,cFd,cD]|apply Br.mk<;>intro h<;>try simp -dsimp only[h]|refine CallK.c (by first|exact areCharacters _ (htz _ (List.getElem_mem hlt))) ?_|refine aC ?_|fail
          all_goals first|omega|(refine ret_eq ?_;simp[colT,hall,a1,a2,a3];done)|(simp[colT,hall,a1,a2,a3];done)
         ·simp -dsimp only[go_sem,hw,hm,hb,cFd,cD]
          repeat' first|simp -dsimp only[go_sem,hw,hm,hb,cFd,cD]|apply Br.mk<;>intro h<;>try simp -dsimp only[h]|refine CallK.c (by first|exact areCharacters _ (htz _ (List.getElem_mem hlt))) ?_|refine aC ?_|fail
          all_goals first|omega|(exact nx (i+1,()) (take_succ_all (p:=areCh) hlt hg hb))
        ·have hge:i=ts.length:=by
          have:¬i<ts.length:=Dq
          omega
         subst hge
         simp -dsimp only[go_sem,cFd,cD]
         have a4:ts.all (areCh)=true:=by simpa using hg
         clear hg hi hc
         refine⟨?_,by simp⟩
         refine LoopK.at dM (X:={zz:Nat×(Unit) // zz.1≤ls.length∧(ls.take zz.1).all ((allCh fr to))=true}) (fun zz=>[(70,.v (.int .i64 zz.1.1))]) (fun zz=>[]) (fun zz=>ls.length-zz.1.1) ⟨(0,()),by omega,by simp⟩ ?_ ?_
         ·exact le0
         ·rintro⟨⟨i,_⟩,hi,hg⟩
          dsimp only at hi hg
          simp -dsimp only[go_sem,cFd,cD]
          refine Br.mk (fun hc=>?_) fun hc=>?_
          ·have hlt:i<ls.length:=Dq
           have hw:=wrap_succ hlt hk.1
           have hsm:=hk.2 _ (List.getElem_mem hlt)
           have hm:(E cD ls).getD i []=[.sl 1 (E cC ls[i])]:=E_get hlt
           have hdk:deckB ls[i]=true:=(List.all_eq_true.1 a1) _ (List.getElem_mem hlt)
           have hfk:fldB fr to (widB ls[i])=true:=(List.all_eq_true.1 a2) _ (List.getElem_mem hlt)
           have hof:=okF_of hdk hfk
           cases hb:(allCh fr to) ls[i]
           ·have hall:ls.all ((allCh fr to))=false:=not_all (p:=(allCh fr to)) hlt hb
            repeat' first|simp -dsimp only[go_sem,hw,hm,hb,cFd,cD]|apply Br.mk<;>intro h<;>try simp -dsimp only[h]|refine CallK.c (by first|exact haveField _ fr to hof hsm.1) ?_|refine aC ?_|fail
            all_goals first|omega|(refine ret_eq ?_;simp[colT,hall,a1,a2,a3,a4];done)|(simp[colT,hall,a1,a2,a3,a4];done)
           ·simp -dsimp only[go_sem,hw,hm,hb,cFd,cD]
            repeat' first|simp -dsimp only[go_sem,hw,hm,hb,cFd,cD]|apply Br.mk<;>intro h<;>try simp -dsimp only[h]|refine CallK.c (by first|exact haveField _ fr to hof hsm.1) ?_|refine aC ?_|fail
            all_goals first|omega|(exact nx (i+1,()) (take_succ_all (p:=(allCh fr to)) hlt hg hb))
          ·have hge:i=ls.length:=by
            have:¬i<ls.length:=Dq
            omega
           subst hge
           simp -dsimp only[go_sem,cFd,cD]
           have a5:ls.all (allCh fr to)=true:=by simpa using hg
           simp[colT,a1,a2,a3,a4,a5]
theorem stp_pre (fr to:Int) (l:List (List Int)) (i:Nat):∀k,∃r,stpTo fr to l (i+k)=stpTo fr to l i++r
 |0=>⟨[],by simp⟩
 | k+1=>by
  obtain⟨r,hr⟩:=stp_pre fr to l i k
  exact⟨r++(if cmF fr to (l.getD (i+k+1) []) (l.getD (i+k) [])<0 then[((i+k+1:Nat):Int)] else[]),by rw[←Nat.add_assoc,stpTo,hr,List.append_assoc]⟩
def stF (fr to:Int) (l:List (List Int)):Int:=(stp fr to l).headD (-1)
theorem stF_asc (fr to:Int) (l:List (List Int)):decide (stF fr to l≥0) = !ascB fr to l:=by
 have hm:∀k,∀x,x∈stpTo fr to l k→0≤x:=by
  intro k
  induction k with
  |zero=>intro x hx;simp[stpTo] at hx
  | succ k ih =>
   intro x hx
   rw[stpTo] at hx
   rcases List.mem_append.1 hx with hx|hx
   ·exact ih x hx
   ·split at hx
    ·simp at hx;omega
    ·cases hx
 unfold stF ascB
 cases h:stp fr to l with
 |nil=>simp
 | cons x r =>
  have:=hm (l.length-1) x (by unfold stp at h;rw[h];simp)
  simp only[List.headD_cons,ge_iff_le,this,decide_true,List.length_cons]
  symm
  simp;omega
attribute [local go_sem] E_len cFd cD in
theorem l07Step (l:List (List Int)) (fr to:Int) (ho:∀c,c∈l→okF fr to c) (hh:allCh fr to l=true) (hl:l.length≤1048576):Fz F.s_l07Step [.sl 1 (E cSt (keyL fr to l))] (.v (.int .i64 (stF fr to l))):=by
 have hkl:(keyL fr to l).length=l.length:=by simp[keyL]
 refine fn0 Cd.s_l07Step_k fun X=>?_
 simp -dsimp only[go_sem,hkl]
 refine LoopK.at dM (X:={zz:Nat×(Unit) // zz.1≤l.length-1∧stpTo fr to l zz.1=[]}) (fun zz=>[(3,.v (.int .i64 ((zz.1.1+1:Nat):Int)))]) (fun zz=>[]) (fun zz=>l.length-1-zz.1.1) ⟨(0,()),by omega,by simp[stpTo]⟩ ?_ ?_
 ·simp[Vs.LeL,Vs.look,Vs.hlook,Vs.sput,Vs.sputs,Vs.hset,Vs.hputs,Vs.E,stpTo]
 ·rintro⟨⟨i,_⟩,hi,hg⟩
  dsimp only at hi hg
  simp -dsimp only[go_sem,hkl]
  refine Br.mk (fun hc=>?_) fun hc=>?_
  ·have hlt:i<l.length-1:=Dq
   have hw:=wrap_succ hlt (by omega)
   have hl1:i+1<l.length:=by omega
   have hl0:i<l.length:=by omega
   have hk1:=ho _ (List.getElem_mem hl1)
   have hk0:=ho _ (List.getElem_mem hl0)
   have hc1:hasCh (fH fr to l[i+1])=true:=(List.all_eq_true.1 hh) _ (List.getElem_mem hl1)
   have hc0:hasCh (fH fr to l[i])=true:=(List.all_eq_true.1 hh) _ (List.getElem_mem hl0)
   have hm1:(E cSt (keyL fr to l)).getD (i+1) []=[.v (.string (txt (fH fr to l[i+1])))]:=by rw[E_get (by omega)];simp[keyL,cSt]
   have hm0:(E cSt (keyL fr to l)).getD i []=[.v (.string (txt (fH fr to l[i])))]:=by rw[E_get (by omega)];simp[keyL,cSt]
   have hw2:=wrap2 hlt hl
   have hw3:=wrap3 hlt hl
   have g1:l.getD (i+1) []=l[i+1]:=by simp[List.getD,hl1]
   have g0:l.getD i []=l[i]:=by simp[List.getD,hl0]
   have hcf:cmpR (fH fr to l[i+1]) (fH fr to l[i])=cmF fr to l[i+1] l[i]:=rfl
   by_cases hz:cmF fr to l[i+1] l[i]<0
   ·have e1:decide (cmF fr to l[i+1] l[i]<0)=true:=decide_eq_true hz
    have hs:stpTo fr to l (i+1)=[((i+1:Nat):Int)]:=by rw[stpTo,g1,g0,if_pos hz,hg];rfl
    obtain⟨r,hr⟩:=stp_pre fr to l (i+1) (l.length-1-(i+1))
    rw[show i+1+(l.length-1-(i+1))=l.length-1 by omega,hs] at hr
    have hst:stF fr to l=((i+1:Nat):Int):=by unfold stF stp;rw[hr];rfl
    repeat' first|simp -dsimp only[go_sem,hw2,hw3,hm1,hm0,hcf,e1,hkl]|apply Br.mk<;>intro h<;>try simp -dsimp only[h]|refine CallK.c (by first|exact l03Compare _ _ (fH_le hk1) ((fH_len hk1).trans (fH_len hk0).symm) hc1 hc0) ?_|refine aC ?_|fail
    all_goals first|omega|(refine ret_eq ?_;simp[hst];done)|(simp[hst];done)
   ·have e1:decide (cmF fr to l[i+1] l[i]<0)=false:=decide_eq_false hz
    have hs:stpTo fr to l (i+1)=[]:=by rw[stpTo,g1,g0,if_neg hz,hg];rfl
    repeat' first|simp -dsimp only[go_sem,hw2,hw3,hm1,hm0,hcf,e1,hkl]|apply Br.mk<;>intro h<;>try simp -dsimp only[h]|refine CallK.c (by first|exact l03Compare _ _ (fH_le hk1) ((fH_len hk1).trans (fH_len hk0).symm) hc1 hc0) ?_|refine aC ?_|fail
    all_goals first|omega|(exact nx (i+1,()) hs)
  ·have hge:i=l.length-1:=by
    have:¬i<l.length-1:=Dq
    omega
   subst hge
   simp -dsimp only[go_sem,hkl]
   have hst:stF fr to l=-1:=by unfold stF stp;rw[hg];rfl
   simp[hst]
end
section
variable [Vs.Envs]
attribute [local irreducible] Vs.Fn chOK areCh chTo chAt l03 chB rk cd3 chI stp stpTo
def flt (q:List Int→Bool) (l:List (List Int)):List (List Int):=l.filter fun x=>!q x
theorem flt_succ {q:List Int→Bool}{l:List (List Int)}{j:Nat} (h:j<l.length):flt q (l.take (j+1))=flt q (l.take j)++(if q l[j] then[] else[l[j]]):=by
 unfold flt
 rw[take_succ h,List.filter_append]
 congr 1
 cases hq:q l[j]<;>simp[List.filter_cons,hq]
theorem flt_len (q:List Int→Bool) (l:List (List Int)):(flt q l).length≤l.length:=List.length_filter_le ..
theorem flt_none {q:List Int→Bool}{l:List (List Int)} (h:l.all (fun x=>!q x)=true):flt q l=l:=by
 unfold flt
 exact List.filter_eq_self.2 (List.all_eq_true.1 h)
theorem idxP_cases (q:List Int→Bool) (l:List (List Int)):(idxP q l=-1∧l.all (fun x=>!q x)=true)∨∃i:Nat,∃h:i<l.length,idxP q l=i∧q l[i]=true∧(l.take i).all (fun x=>!q x)=true:=by
 unfold idxP
 cases h:l.findIdx? q with
 | none =>
  rw[List.findIdx?_eq_none_iff] at h
  exact .inl ⟨rfl,List.all_eq_true.2 fun x hx=>by simp[h x hx]⟩
 | some i =>
  rw[List.findIdx?_eq_some_iff_getElem] at h
  obtain⟨hi,hp,h2⟩:=h
  refine .inr ⟨i,hi,rfl,hp,List.all_eq_true.2 fun x hx=>?_⟩
  obtain⟨j,hj,rfl⟩:=List.mem_take_iff_getElem.1 hx
  simpa using h2 j (by omega)
theorem E_setm (m:List (List Int)) (i:Nat) (x:List Int):(E cC m).set i [.sl 1 (E cI x)]=E cC (m.set i x):=by simp[E,List.map_set,cC]
theorem E_takeall (l:List (List Int)):(E cC l).take l.length=E cC l:=List.take_of_length_le (by simp[E])
def zR (n:Nat):List (List AV):=List.replicate n [.v (.slice none 0 0)]
theorem clr_row {m:List (List Int)}{i n:Nat} (hm:m.length=n) (hi:i≤n):clrL (E cC m) i (n-i) [.v (.slice none 0 0)]=E cC (m.take i)++zR (n-i):=by
 unfold clrL zR
 have h1:(E cC m).take i=E cC (m.take i):=by simp[E,List.map_take]
 have h2:(E cC m).drop (i+(n-i))=[]:=List.drop_eq_nil_of_le (by rw[E_len];omega)
 rw[h1,h2,List.append_nil]
theorem has_cells {c:List AV} (h:cellsB c=true) (n:Name):hasL n c=false:=by
 induction c with
 |nil=>rfl
 | cons x r ih =>
  simp only[cellsB,List.all_cons,Bool.and_eq_true] at h
  have hx:x.has n=false:=by
   have h1:=h.1
   cases x<;>first|rfl|simp[cellB] at h1
  simp[hasL,hx,ih h.2]
attribute [local irreducible] flt idxP zR clrL
theorem delF (q:List Int→Bool) (g:FuncId) (caps:List AV) (hcaps:cellsB caps=true) (l:List (List Int)) (hl:l.length≤1048576) (hq:∀x,x∈l→Vs.Fn Tryz.prog g [] (.agg (cC x)::caps) (.v (.bool (q x))) []) :
  Vs.Fn Tryz.prog F.dlf_Card [.arr 1 (E cC l) false] [.loc (.b 0) 0 l.length,.fn g caps] (.loc (.b 0) 0 (flt q l).length) [some (.arr 1 (E cC (flt q l)++zR (l.length-(flt q l).length)) false)]:=by
 have hidx:Fz F.ixf_Card [.sl 1 (E cC l),.fn g caps] (.v (.int .i64 (idxP q l))):=
  ixA_fn Tryz.mixed (k:=1) Cd.ixf_Card_k.o Cd.ixf_Card_k.n Cd.ixf_Card_k.r rfl q g caps hcaps (fun _=>rfl) (fun _=>rfl) hq hl
 refine fn1 Cd.dlf_Card_k [.b 0] [.arr 1 (E cC (flt q l)++zR (l.length-(flt q l).length)) false] fun X=>?_
 unfold Cd.dlf_Card
 simp -dsimp only[go_sem,conv_cells hcaps _ 6,conv_cells hcaps _ 7,E_takeall,E_len]
 refine CallK.flat hidx rfl ?_
 rcases idxP_cases q l with⟨hn,hall⟩|⟨i0,hi0,hn,hq0,hall⟩
 ·have e1:((-1:Int) == -1)=true:=rfl
  rw[hn]
  have hfl:=flt_none hall
  rw[hfl]
  have hz0:E cC l++zR (l.length-l.length)=E cC l:=by unfold zR;simp
  simp -dsimp only[go_sem,e1,E_len,List.replicate_succ,List.replicate_zero,List.flatten_cons,List.flatten_nil,List.cons_append,List.nil_append,List.set_cons_zero,List.set_cons_succ,List.length_cons,List.length_nil,List.length_set]
  exact⟨[],[],rfl,by rw[hz0]⟩
 ·have e1:((i0:Int) == -1)=false:=beq_eq_false_iff_ne.2 (by omega)
  have hw0:=wrap_succ hi0 hl
  rw[hn]
  simp -dsimp only[go_sem,e1,hw0,E_len,List.replicate_succ,List.replicate_zero,List.flatten_cons,List.flatten_nil,List.cons_append,List.nil_append,List.set_cons_zero,List.set_cons_succ,List.length_cons,List.length_nil,List.length_set]
  refine LoopK.at dM (X:={zz:Nat×Nat×List (List Int) // (zz.1≤l.length∧zz.2.1<zz.1)∧zz.2.2.length=l.length∧zz.2.2.take zz.2.1=flt q (l.take zz.1)∧zz.2.2.drop zz.1=l.drop zz.1}) (fun zz=>[(5,.v (.int .i64 zz.1.2.1)),(6,.v (.int .i64 zz.1.1))]) (fun zz=>[(.b 0,.arr 1 (E cC zz.1.2.2) false)]) (fun zz=>l.length-zz.1.1) ⟨(i0+1,i0,l),⟨show i0+1≤l.length by omega,show i0<i0+1 by omega⟩,rfl,?_,rfl⟩ ?_ ?_
  ·show l.take i0=flt q (l.take (i0+1))
   rw[flt_succ hi0,flt_none hall,hq0];simp
  ·exact le0
  ·rintro⟨⟨j,i,m⟩,⟨hj,hij⟩,hm,ht,hd⟩
   dsimp only at hj hij hm ht hd
   simp -dsimp only[go_sem]
   refine Br.mk (fun hc=>?_) fun hc=>?_
   ·have hlt:j<l.length:=by simpa using hc
    have hw:=wrap_succ hlt hl
    have hwi:=wrap_succ (show i<l.length by omega) hl
    have hjm:j<m.length:=by omega
    have him:i<m.length:=by omega
    have hmj:m[j]=l[j]:=by
     have h1:=congrArg (fun x=>x[0]?) hd
     simpa[List.getElem?_drop,hjm,hlt] using h1
    have hgm:(E cC m).getD j []=[.sl 1 (E cI l[j])]:=by rw[E_get hjm,hmj];rfl
    have hgi:(E cC m).getD i []=[.sl 1 (E cI m[i])]:=E_get him
    have hlm:(E cC m).length=l.length:=by rw[E_len];exact hm
    have hcj:Vs.Fn Tryz.prog g [] (.agg [.sl 1 (E cI l[j])]::caps) (.v (.bool (q l[j]))) []:=hq _ (List.getElem_mem hlt)
    have hsm:=E_setm m i l[j]
    have hdd:m.drop (j+1)=l.drop (j+1):=by
     have h1:=congrArg (List.drop 1) hd
     simpa[List.drop_drop] using h1
    cases hqj:q l[j]
    ·have htt:(m.set i l[j]).take (i+1)=flt q (l.take (j+1)):=by
      rw[flt_succ hlt,hqj,←ht,take_succ (show i<(m.set i l[j]).length by simpa using him)]
      simp only[List.append_cancel_right_eq,List.getElem_set_self,if_false,Bool.false_eq_true]
      rw[List.take_set_of_le (Nat.le_refl _)]
     have hd2:(m.set i l[j]).drop (j+1)=l.drop (j+1):=by rw[List.drop_set_of_lt (by omega),hdd]
     repeat' first|simp -dsimp only[go_sem,hw,hwi,hgm,hgi,hlm,hsm,hqj,conv_cells hcaps _ 6,conv_cells hcaps _ 7,has_cells hcaps,List.replicate_succ,List.replicate_zero,List.flatten_cons,List.flatten_nil,List.cons_append,List.nil_append,List.set_cons_zero,List.set_cons_succ,List.length_cons,List.length_nil,List.length_set]|apply Br.mk<;>intro h<;>try simp -dsimp only[h]|refine CallK.c (by first|exact hcj) ?_|refine aC ?_|fail
     all_goals first|omega|(exact⟨⟨(j+1,i+1,m.set i l[j]),⟨by dsimp only;omega,by dsimp only;omega⟩,by simpa using hm,htt,hd2⟩,by simp[Vs.LeL,Vs.look,Vs.hlook,Vs.sput,Vs.sputs,Vs.hset,Vs.hputs],by simp only;omega⟩)
    ·have htt:m.take i=flt q (l.take (j+1)):=by rw[flt_succ hlt,hqj,←ht];simp
     repeat' first|simp -dsimp only[go_sem,hw,hwi,hgm,hgi,hlm,hsm,hqj,conv_cells hcaps _ 6,conv_cells hcaps _ 7,has_cells hcaps,List.replicate_succ,List.replicate_zero,List.flatten_cons,List.flatten_nil,List.cons_append,List.nil_append,List.set_cons_zero,List.set_cons_succ,List.length_cons,List.length_nil,List.length_set]|apply Br.mk<;>intro h<;>try simp -dsimp only[h]|refine CallK.c (by first|exact hcj) ?_|refine aC ?_|fail
     all_goals first|omega|(exact⟨⟨(j+1,i,m),⟨by dsimp only;omega,by dsimp only;omega⟩,hm,htt,hdd⟩,by simp[Vs.LeL,Vs.look,Vs.hlook,Vs.sput,Vs.sputs,Vs.hset,Vs.hputs],by simp only;omega⟩)
   ·have hge:j=l.length:=by
     have:¬j<l.length:=by simpa using hc
     omega
    subst hge
    rw[List.take_length] at ht
    have hfi:(flt q l).length=i:=by rw[←ht];simp;omega
    have hlm:(E cC m).length=l.length:=by rw[E_len];exact hm
    have hcl:=clr_row hm (show i≤l.length by omega)
    rw[ht] at hcl
    have hti:((l.length:Int)-(i:Int)).toNat=l.length-i:=by omega
    rw[hfi]
    simp -dsimp only[go_sem,hlm,hcl,hti,List.replicate_succ,List.replicate_zero,List.flatten_cons,List.flatten_nil,List.cons_append,List.nil_append,List.set_cons_zero,List.set_cons_succ,List.length_cons,List.length_nil,List.length_set]
    have hti2:((i:Int)-0).toNat=i:=by omega
    rw[hti2]
    exact⟨⟨⟨by omega,by omega,by omega⟩,by omega,⟨by omega,by omega,by omega⟩,⟨[],[],rfl,rfl⟩⟩,fun h=>h rfl⟩
end
section
variable [Vs.Envs]
attribute [local irreducible] Vs.Fn chOK areCh chTo chAt l03 chB rk cd3 chI stp stpTo flt idxP zR clrL
attribute [local irreducible] keyC
def hasE (fr to:Int) (o:List (List Int)) (x:List Int):Bool:=o.any fun c=>cmF fr to c x==0
def mat (fr to:Int) (l o:List (List Int)) (e:Bool):List (List Int):=flt (fun x=>!(hasE fr to o x==e)) l
theorem match11 (x:List Int) (o:List (List Int)) (fr to:Int) (e:Bool) (hx:okF fr to x) (ho:∀c,c∈o→okF fr to c) (hl:o.length≤1048576):Fz F.i_MatchDecks_1_1 [.agg (cC x),.ro [.sl 1 (E cC o)],.ro (cFd fr to),.ro [.v (.bool e)]] (.v (.bool (!(hasE fr to o x==e)))):=by
 refine fn0 Cd.i_MatchDecks_1_1_k fun X=>?_
 repeat' first|simp -dsimp only[go_sem,cC,cFd,List.replicate_succ,List.replicate_zero,List.flatten_cons,List.flatten_nil,List.cons_append,List.nil_append,List.set_cons_zero,List.set_cons_succ,List.length_cons,List.length_nil,List.length_set]|apply Br.mk<;>intro h<;>try simp -dsimp only[h]|refine CallK.c (by first|exact hasEqual o x fr to hx ho hl) ?_|refine aC ?_|fail
 all_goals(simp_all [hasE])
theorem CallK.borL {P:Program}{f:FuncId}{b:Blk}{ys:List AV}{L:List Vs.Name}{d:Option Nat}{σ:St}{n:Vs.Name}{K:St→Prop}{t:Tag K}{r:AV}{hout:List (Option Blk)} (hfn:Vs.Fn P f [b] ys r hout) (hfr:freshAll (d.getD 0) 1 hout.length σ=true)
  (hK:K ⟨put d (rn (phi [n] (d.getD 0) hout.length) r) σ.s,aftL σ.h [n] (d.getD 0) hout true L⟩):CallK P f [b] ys L d σ [n] K t:=
 ⟨r,hout,true,hfn,fun h=>(by cases h),hfr,hK⟩
theorem row_take (m:List (List Int)) (k:Nat):(E cC m++zR k).take m.length=E cC m:=by
 have:m.length=(E cC m).length:=(E_len ..).symm
 rw[this,List.take_left']
 rfl
theorem match1 (l o:List (List Int)) (fr to:Int) (e:Bool) (hs:∀x,x∈l→x.length≤1048576) (hl:l.length≤1048576) (ho2:o.length≤1048576) (hx:∀c,c∈l→okF fr to c) (ho:∀c,c∈o→okF fr to c) :
  Fz F.i_MatchDecks_1 [.sl 1 (E cC l),.sl 1 (E cC o),.v (.bool e),.ro (cFd fr to)] (.sl 1 (E cC (mat fr to l o e))):=by
 have hd:=delF (fun x=>!(hasE fr to o x==e)) F.i_MatchDecks_1_1 [.ro [.sl 1 (E cC o)],.ro (cFd fr to),.ro [.v (.bool e)]] rfl l hl (fun x hx'=>match11 x o fr to e (hx x hx') ho ho2)
 refine fn0 Cd.i_MatchDecks_1_k fun X=>?_
 simp -dsimp only[go_sem,cC,cFd,List.replicate_succ,List.replicate_zero,List.flatten_cons,List.flatten_nil,List.cons_append,List.nil_append,List.set_cons_zero,List.set_cons_succ,List.length_cons,List.length_nil,List.length_set]
 refine CallK.own (newDeck l hs hl) rfl ?_
 simp -dsimp only[go_sem,cC,cFd,List.replicate_succ,List.replicate_zero,List.flatten_cons,List.flatten_nil,List.cons_append,List.nil_append,List.set_cons_zero,List.set_cons_succ,List.length_cons,List.length_nil,List.length_set,List.flatMap_cons,List.flatMap_nil,cellN,topN,nestN,List.getD_cons_zero,List.append_nil]
 refine⟨rfl,CallK.borL hd rfl ?_⟩
 simp -dsimp only[go_sem,cC,cFd,List.replicate_succ,List.replicate_zero,List.flatten_cons,List.flatten_nil,List.cons_append,List.nil_append,List.set_cons_zero,List.set_cons_succ,List.length_cons,List.length_nil,List.length_set]
 have hr:=row_take (flt (fun x=>!(hasE fr to o x==e)) l) (l.length-(flt (fun x=>!(hasE fr to o x==e)) l).length)
 have hlen:(flt (fun x=>!(hasE fr to o x==e)) l).length≤l.length:=flt_len ..
 have hm:mat fr to l o e=flt (fun x=>!(hasE fr to o x==e)) l:=rfl
 rw[hm]
 simp -dsimp only[go_sem,List.getElem?_cons_zero,List.drop_zero,E_len,List.length_append,hr]
 exact⟨_,_,rfl,rfl⟩
def mtC (fr to:Int) (a b:List (List Int)):Int:=if colC fr to [a,b]=0 then(if ascB fr to a&&ascB fr to b then 0 else 6) else colC fr to [a,b]
def mtL (fr to:Int) (a b:List (List Int)):List (List (List Int)):=[mat fr to a b true,mat fr to b a true,mat fr to a b false,mat fr to b a false]
def mtV (fr to:Int) (a b:List (List Int)):AV:=if mtC fr to a b=0 then .sl 1 (E cD (mtL fr to a b)) else .v (.slice none 0 0)
theorem colC_ok {fr to:Int}{a b:List (List Int)} (h:colC fr to [a,b]=0):(deckB a=true∧deckB b=true)∧(fldB fr to (widB a)=true∧fldB fr to (widB b)=true)∧allCh fr to a=true∧allCh fr to b=true:=by
 unfold colC at h
 split at h
 ·rename_i h1
  split at h
  ·rename_i h2
   split at h
   ·rename_i h3
    simp only[List.all_cons,List.all_nil,Bool.and_true,Bool.and_eq_true] at h1 h2 h3
    exact⟨h1,h2,h3⟩
   ·cases h
  ·cases h
 ·cases h
theorem smallK2 {a b:List (List Int)} (ha:smallC a) (hb:smallC b):smallK [a,b]:=by
 refine⟨by simp,fun d hd=>?_⟩
 simp only[List.mem_cons,List.not_mem_nil,or_false] at hd
 rcases hd with rfl|rfl<;>assumption
attribute [local irreducible] mat colC ascB
attribute [local go_sem] List.replicate_succ List.replicate_zero List.flatten_cons List.flatten_nil List.cons_append List.nil_append List.set_cons_zero List.set_cons_succ List.length_cons List.length_nil List.length_set List.take_succ_cons List.take_zero List.drop_succ_cons List.drop_zero in
theorem impl_MatchDecks (a b:List (List Int)) (fr to:Int) (ha:smallC a) (hb:smallC b):Fz F.i_MatchDecks [.sl 1 (E cC a),.sl 1 (E cC b),.agg (cFd fr to)] (.tup [mtV fr to a b,.v (.int .i64 (mtC fr to a b))]):=by
 have e2:[[AV.sl 1 (E cC a)],[AV.sl 1 (E cC b)]]=E cD [a,b]:=rfl
 by_cases hc:colC fr to [a,b]=0
 rotate_left
 ·have e1:(colC fr to [a,b] != 0)=true:=by simp[hc]
  refine fn0 Cd.i_MatchDecks_k fun X=>?_
  repeat' first|simp -dsimp only[go_sem,cFd,e2,e1]|apply Br.mk<;>intro h<;>try simp -dsimp only[h]|refine CallK.c (by first|exact collate0 fr to [a,b] (smallK2 ha hb)) ?_|refine aC ?_|fail
  all_goals simp[mtV,mtC,hc]
 obtain⟨⟨da,db⟩,⟨fa,fb⟩,ca,cb⟩:=colC_ok hc
 have oa:=okF_of da fa
 have ob:=okF_of db fb
 cases hs:ascB fr to a&&ascB fr to b
 ·have hn:(!ascB fr to a||!ascB fr to b)=true:=by
   cases h1:ascB fr to a<;>cases h2:ascB fr to b<;>simp_all
  refine fn0 Cd.i_MatchDecks_k fun X=>?_
  repeat' first|simp -dsimp only[go_sem,cFd,e2,hc]|apply Br.mk<;>intro h<;>try simp -dsimp only[h]|refine CallK.c (by first|exact collate0 fr to [a,b] (smallK2 ha hb)|exact isAscending a fr to oa ha.1|exact isAscending b fr to ob hb.1) ?_|refine aC ?_|fail
  all_goals first|(simp_all [mtV,mtC];done)|(refine ret_eq ?_;simp_all [mtV,mtC];done)
 have h1:ascB fr to a=true:=by simp only[Bool.and_eq_true] at hs;exact hs.1
 have h2:ascB fr to b=true:=by simp only[Bool.and_eq_true] at hs;exact hs.2
 refine fn0 Cd.i_MatchDecks_k fun X=>?_
 repeat' first|simp -dsimp only[go_sem,cFd,e2,hc,h1,h2]|apply Br.mk<;>intro h<;>try simp -dsimp only[h]|refine CallK.c (by first|exact collate0 fr to [a,b] (smallK2 ha hb)|exact isAscending a fr to oa ha.1|exact isAscending b fr to ob hb.1|exact match1 a b fr to true ha.2 ha.1 hb.1 oa ob|exact match1 b a fr to true hb.2 hb.1 ha.1 ob oa|exact match1 a b fr to false ha.2 ha.1 hb.1 oa ob|exact match1 b a fr to false hb.2 hb.1 ha.1 ob oa) ?_|refine aC ?_|fail
 all_goals (have hz:mtC fr to a b=0:=by simp[mtC,hc,hs]
            have hv:mtV fr to a b=.sl 1 (E cD (mtL fr to a b)):=by simp[mtV,hz]
            rw[hz,hv]

            first|exact⟨_,_,rfl,rfl⟩|(refine ret_eq rfl))
end
section
variable [Vs.Envs]
attribute [local irreducible] Vs.Fn chOK areCh chTo chAt l03 chB rk cd3 chI stp stpTo stb
theorem sortStable (g:FuncId) (caps:List AV) (hcaps:cellsB caps=true) (cf:Int→Int→Int) (D:Int→Prop) (hc:CmpOK Tryz.prog g caps cf D) (l:List Int) (hD:∀x,x∈l→D x) (hl:l.length≤40) :
  Vs.Fn Tryz.prog F.sortst___int64 [.arr 1 (E cI l) false] [.loc (.b 0) 0 l.length,.fn g caps] (.tup []) [some (.arr 1 (E cI (stb (ltf cf) l)) false)]:=by
 have ST:=stable g caps hcaps cf D hc l hD hl
 refine fn1 Cd.sortst___int64_k [.b 0] [.arr 1 (E cI (stb (ltf cf) l)) false] fun X=>?_
 unfold Cd.sortst___int64
 repeat' first|simp -dsimp only[go_sem,List.flatMap_cons,List.flatMap_nil,cellN,topN,nestN,List.getD_cons_zero,List.append_nil,List.nil_append,List.cons_append,conv_cells hcaps _ 6,conv_cells hcaps _ 7,E_len]|apply Br.mk<;>intro h<;>try simp -dsimp only[h]|refine CallK.bor (by first|exact ST) rfl ?_|refine aC ?_|fail
 all_goals first|exact⟨_,_,rfl,rfl⟩
def cfO (fr to:Int) (l:List (List Int)) (i j:Int):Int:=cmF fr to (l.getD i.toNat []) (l.getD j.toNat [])
def inO (n:Nat) (x:Int):Prop:=0≤x∧x<(n:Int)
theorem cC_get {l:List (List Int)}{x:Int} (h:inO l.length x):(E cC l).getD x.toNat []=[.sl 1 (E cI (l.getD x.toNat []))]:=by
 have hlt:x.toNat<l.length:=by have:=h.1;have:=h.2;omega
 rw[E_get hlt];simp[cC,List.getD,hlt]
theorem mem_get {l:List (List Int)}{x:Int} (h:inO l.length x):l.getD x.toNat []∈l:=by
 have hlt:x.toNat<l.length:=by have:=h.1;have:=h.2;omega
 have e:l.getD x.toNat []=l[x.toNat]:=by simp[List.getD,hlt]
 rw[e];exact List.getElem_mem hlt
theorem orderBy1 (l:List (List Int)) (fr to:Int) (ho:∀c,c∈l→okF fr to c):CmpOK Tryz.prog F.i_orderBy_1 [.ro [.sl 1 (E cC l)],.ro (cFd fr to)] (cfO fr to l) (inO l.length):=by
 intro x y hx hy
 have gx:=cC_get hx
 have gy:=cC_get hy
 have x0:=hx.1
 have x1:=hx.2
 have y0:=hy.1
 have y1:=hy.2
 have C:=compareFields (l.getD x.toNat []) (l.getD y.toNat []) fr to (ho _ (mem_get hx)) (ho _ (mem_get hy))
 rw[show cmF fr to (l.getD x.toNat []) (l.getD y.toNat [])=cfO fr to l x y from rfl] at C
 refine fn0 Cd.i_orderBy_1_k fun X=>?_
 repeat' first|simp -dsimp only[go_sem,cC,cFd,gx,gy,E_len]|apply Br.mk<;>intro h<;>try simp -dsimp only[h]|refine CallK.c (by first|exact C) ?_|refine aC ?_|fail
 all_goals first|exact⟨_,_,rfl,rfl⟩|simp
def iota (n:Nat):List Int:=(List.range n).map fun i:Nat=>(i:Int)
theorem iota_succ (n:Nat):iota (n+1)=iota n++[(n:Int)]:=by simp[iota,List.range_succ]
theorem iota_len (n:Nat):(iota n).length=n:=by simp[iota]
theorem iota_in {n:Nat}:∀x,x∈iota n→inO n x:=by
 intro x hx
 obtain⟨i,hi,rfl⟩:=List.mem_map.1 hx
 have:=List.mem_range.1 hi
 exact⟨by omega,by omega⟩
def ordL (fr to:Int) (l:List (List Int)):List Int:=stb (ltf (cfO fr to l)) (iota l.length)
theorem ordL_len (fr to:Int) (l:List (List Int)):(ordL fr to l).length=l.length:=by rw[ordL,stb_length,iota_len]
attribute [local go_sem] E_len in
theorem orderBy (l:List (List Int)) (fr to:Int) (ho:∀c,c∈l→okF fr to c) (hl:l.length≤40):Fz F.i_orderBy [.sl 1 (E cC l),.agg (cFd fr to)] (.sl 1 (E cI (ordL fr to l))):=by
 refine fn0 Cd.i_orderBy_k fun X=>?_
 repeat' first|simp -dsimp only[go_sem,cC,cFd]|apply Br.mk<;>intro h<;>try simp -dsimp only[h]|refine aC ?_|fail
 refine LoopK.at dM (X:={zz:Nat×(Unit) // zz.1≤l.length∧True}) (fun zz=>[(5,.loc (.t 5 0) 0 zz.1.1),(10,.v (.int .i64 zz.1.1))]) (fun zz=>[(.t 5 0,.arr 1 (E cI (iota zz.1.1)) false)]) (fun zz=>l.length-zz.1.1) ⟨(0,()),by omega,trivial⟩ ?_ ?_
 ·simp[Vs.LeL,Vs.look,Vs.hlook,Vs.sput,Vs.sputs,Vs.hset,Vs.hputs,Vs.E,iota]
 ·rintro⟨⟨i,_⟩,hi,hg⟩
  dsimp only at hi hg
  simp -dsimp only[go_sem,cC,cFd,iota_len,List.mem_singleton,List.mem_cons,List.not_mem_nil,or_false,false_or,Vs.Name.t.injEq,List.flatMap_cons,List.flatMap_nil,cellN,topN,nestN,List.getD_cons_zero,List.append_nil,List.nil_append,List.cons_append]
  refine Br.mk (fun hc=>?_) fun hc=>?_
  ·have hlt:i<l.length:=Dq
   have hw:=wrap_succ hlt (by omega)
   have hap:E cI (iota i)++[[.v (.int .i64 (i:Int))]]=E cI (iota (i+1)):=by rw[iota_succ,E_append];rfl
   repeat' first|simp -dsimp only[go_sem,hw,hap,cC,cFd,iota_len,List.mem_singleton,List.mem_cons,List.not_mem_nil,or_false,false_or,Vs.Name.t.injEq,List.flatMap_cons,List.flatMap_nil,cellN,topN,nestN,List.getD_cons_zero,List.append_nil,List.nil_append,List.cons_append]|apply Br.mk<;>intro h<;>try simp -dsimp only[h]|refine aC ?_|fail
   all_goals first|omega|(exact nx (i+1,()) trivial (h2:=by simp[Vs.LeL,Vs.look,Vs.hlook,Vs.sput,Vs.sputs,Vs.hset,Vs.hputs,hap]))
  ·have hge:i=l.length:=by
    have:¬i<l.length:=Dq
    omega
   subst hge
   simp -dsimp only[go_sem,cC,cFd,iota_len,List.mem_singleton,List.mem_cons,List.not_mem_nil,or_false,false_or,Vs.Name.t.injEq,List.flatMap_cons,List.flatMap_nil,cellN,topN,nestN,List.getD_cons_zero,List.append_nil,List.nil_append,List.cons_append]
   have ST:=sortStable F.i_orderBy_1 [.ro [.sl 1 (E cC l)],.ro (cFd fr to)] rfl (cfO fr to l) (inO l.length) (orderBy1 l fr to ho) (iota l.length) iota_in (by rw[iota_len];exact hl)
   rw[show stb (ltf (cfO fr to l)) (iota l.length)=ordL fr to l from rfl,iota_len] at ST
   refine⟨⟨rfl,CallK.borL ST rfl ?_⟩,fun h=>h rfl⟩
   simp -dsimp only[go_sem,ordL_len fr to l,List.mem_singleton,List.mem_cons,List.not_mem_nil,or_false,false_or,Vs.Name.t.injEq,List.flatMap_cons,List.flatMap_nil,cellN,topN,nestN,List.getD_cons_zero,List.append_nil,List.nil_append,List.cons_append]
   have htk:(E cI (ordL fr to l)).take l.length=E cI (ordL fr to l):=List.take_of_length_le (by rw[E_len,ordL_len fr to l];exact Nat.le_refl _)
   first|exact⟨_,_,rfl,rfl⟩|(simp only[htk];exact⟨_,_,rfl,rfl⟩)
theorem cmpR_anti:∀(a b:List Int),a.length=b.length→cmpR b a=- cmpR a b
 | [],[],_=>rfl
 | x::a,y::b,h=>by
  have ih:=cmpR_anti a b (by simpa using h)
  simp only[cmpR]
  by_cases h1:rk x<rk y
  ·have h2:¬rk y<rk x:=by omega
   have h3:rk y>rk x:=by omega
   simp[h1,h2,h3]
  ·by_cases h2:rk y<rk x
   ·simp[h1,h2]
   ·simp[h1,h2,ih]
 | [],_::_,h=>by simp at h
 |_::_,[],h=>by simp at h
theorem cmpR_zero:∀(a b c:List Int),a.length=b.length→b.length=c.length→cmpR a b=0→cmpR a c=cmpR b c
 | [],[],c,_,_,_=>rfl
 |x::a,y::b,[],_,h,_=>by simp at h
 | x::a,y::b,z::c,h1,h2,h=>by
  simp only[cmpR] at h⊢
  split at h
  ·cases h
  ·split at h
   ·cases h
   ·have ih:=cmpR_zero a b c (by simpa using h1) (by simpa using h2) h
    have e:rk x=rk y:=by omega
    rw[e,ih]
 | [],_::_,_,h,_,_=>by simp at h
 |_::_,[],_,h,_,_=>by simp at h
theorem cmpR_trans:∀(a b c:List Int),a.length=b.length→b.length=c.length→cmpR a b<0→cmpR b c≤0→cmpR a c<0
 | [],[],c,_,_,h,_=>by simp[cmpR] at h
 |x::a,y::b,[],_,h,_,_=>by simp at h
 | x::a,y::b,z::c,h1,h2,h,h'=>by
  simp only[cmpR] at h h'⊢
  split at h
  ·split at h'
   ·rw[if_pos (by omega)];omega
   ·split at h'
    ·omega
    ·rw[if_pos (by omega)];omega
  ·split at h
   ·omega
   ·split at h'
    ·rw[if_pos (by omega)];omega
    ·split at h'
     ·omega
     ·rw[if_neg (by omega),if_neg (by omega)]
      exact cmpR_trans a b c (by simpa using h1) (by simpa using h2) h h'
 | [],_::_,_,h,_,_,_=>by simp at h
 |_::_,[],_,h,_,_,_=>by simp at h
end
section
variable [Vs.Envs]
attribute [local irreducible] Vs.Fn chOK areCh chTo chAt l03 chB rk cd3 chI stp stpTo stb
def ordR (fr to:Int) (l:List (List Int)) (x y:Int):Prop:=(inO l.length x∧inO l.length y)∧(cfO fr to l x y<0∨(cfO fr to l x y=0∧x<y))
section
variable {fr to:Int}{l:List (List Int)} (ho:∀c,c∈l→okF fr to c)
include ho
theorem cf_len {x:Int} (hx:inO l.length x):(fH fr to (l.getD x.toNat [])).length=to.toNat-fr.toNat:=fH_len (ho _ (mem_get hx))
theorem cf_anti {x y:Int} (hx:inO l.length x) (hy:inO l.length y):cfO fr to l y x=- cfO fr to l x y:=cmpR_anti _ _ (by rw[cf_len ho hx,cf_len ho hy])
theorem cf_zero {x y z:Int} (hx:inO l.length x) (hy:inO l.length y) (hz:inO l.length z) (h:cfO fr to l x y=0):cfO fr to l x z=cfO fr to l y z:=
 cmpR_zero _ _ _ (by rw[cf_len ho hx,cf_len ho hy]) (by rw[cf_len ho hy,cf_len ho hz]) h
theorem cf_trans {x y z:Int} (hx:inO l.length x) (hy:inO l.length y) (hz:inO l.length z) (h:cfO fr to l x y<0) (h':cfO fr to l y z≤0):cfO fr to l x z<0:=
 cmpR_trans _ _ _ (by rw[cf_len ho hx,cf_len ho hy]) (by rw[cf_len ho hy,cf_len ho hz]) h h'
theorem ordR_trans (x y z:Int) (h1:ordR fr to l x y) (h2:ordR fr to l y z):ordR fr to l x z:=by
 obtain⟨⟨hx,hy⟩,h1⟩:=h1
 obtain⟨⟨_,hz⟩,h2⟩:=h2
 refine⟨⟨hx,hz⟩,?_⟩
 rcases h1 with h1|⟨h1,h3⟩
 ·exact .inl (cf_trans ho hx hy hz h1 (by omega))
 ·rw[cf_zero ho hx hy hz h1]
  rcases h2 with h2|⟨h2,h4⟩
  ·exact .inl h2
  ·exact .inr ⟨h2,by omega⟩
theorem ordR_asym (x y:Int) (h1:ordR fr to l x y):¬ordR fr to l y x:=by
 rintro⟨⟨hy,hx⟩,h2⟩
 have e:=cf_anti ho hx hy
 have h1:=h1.2
 omega
theorem iota_asks:(iota l.length).Pairwise (Asks (ltf (cfO fr to l)) (ordR fr to l)):=by
 unfold iota
 rw[List.pairwise_map]
 refine List.Pairwise.imp_of_mem (R:=fun a b=>a<b) ?_ List.pairwise_lt_range
 intro a b ha hb hab
 have hx:inO l.length (a:Int):=⟨by omega,by have:=List.mem_range.1 ha;omega⟩
 have hy:inO l.length (b:Int):=⟨by omega,by have:=List.mem_range.1 hb;omega⟩
 have e:=cf_anti ho hx hy
 refine⟨?_,?_⟩
 ·simp only[ltf,decide_eq_true_eq]
  exact⟨fun h=>⟨⟨hy,hx⟩,.inl h⟩,fun h=>by have:=h.2;omega⟩
 ·by_cases h:cfO fr to l b a<0
  ·exact .inr ⟨⟨hy,hx⟩,.inl h⟩
  ·refine .inl ⟨⟨hx,hy⟩,?_⟩
   by_cases h0:cfO fr to l a b=0
   ·exact .inr ⟨h0,by omega⟩
   ·exact .inl (by omega)
theorem ordL_srt (hl:l.length≤40):(ordL fr to l).Perm (iota l.length)∧(ordL fr to l).Pairwise (ordR fr to l):=
 stb_srt (ordR_trans ho) (ordR_asym ho) (by rw[iota_len];exact hl) (iota_asks ho)
theorem ordL_in (hl:l.length≤40):∀x,x∈ordL fr to l→inO l.length x:=fun x hx=>iota_in x ((ordL_srt ho hl).1.mem_iff.1 hx)
end
attribute [local irreducible] ordL
def srtL (fr to:Int) (l:List (List Int)):List (List Int):=(ordL fr to l).map fun i=>l.getD i.toNat []
attribute [local go_sem] E_len List.replicate_succ List.replicate_zero List.flatten_cons List.flatten_nil List.cons_append List.nil_append List.set_cons_zero List.set_cons_succ List.length_cons List.length_nil List.length_set in
theorem sortedBy (l:List (List Int)) (fr to:Int) (ho:∀c,c∈l→okF fr to c) (hl:l.length≤40):Fz F.i_sortedBy [.sl 1 (E cC l),.agg (cFd fr to)] (.sl 1 (E cC (srtL fr to l))):=by
 have OB:=orderBy l fr to ho hl
 have hol:=ordL_len fr to l
 have hoi:=ordL_in ho hl
 rw[show srtL fr to l=(ordL fr to l).map (fun i=>l.getD i.toNat []) from rfl]
 generalize ordL fr to l=o at *
 refine fn0 Cd.i_sortedBy_k fun X=>?_
 repeat' first|simp -dsimp only[go_sem,cC,cFd]|apply Br.mk<;>intro h<;>try simp -dsimp only[h]|refine CallK.c (by first|exact OB) ?_|refine aC ?_|fail
 refine LoopK.at dM (X:={zz:Nat×(Unit) // zz.1≤o.length∧True}) (fun zz=>[(5,.loc (.t 5 0) 0 zz.1.1),(13,.v (.int .i64 zz.1.1))]) (fun zz=>[(.t 5 0,.arr 1 (E cC ((o.take zz.1.1).map fun i=>l.getD i.toNat [])) false)]) (fun zz=>o.length-zz.1.1) ⟨(0,()),by omega,trivial⟩ ?_ ?_
 ·simp[Vs.LeL,Vs.look,Vs.hlook,Vs.sput,Vs.sputs,Vs.hset,Vs.hputs,Vs.E]
 ·rintro⟨⟨i,_⟩,hi,hg⟩
  dsimp only at hi hg
  simp -dsimp only[go_sem,cC,cFd]
  refine Br.mk (fun hc=>?_) fun hc=>?_
  ·have hlt:i<o.length:=Dq
   have hw:=wrap_succ hlt (by omega)
   have hx:=hoi _ (List.getElem_mem hlt)
   have gx:=cC_get hx
   have hm:=mem_get hx
   have hc20:(l.getD o[i].toNat []).length≤20:=(ho _ hm).2.2.2
   have NC:=newCard (l.getD o[i].toNat []) (by omega)
   have x0:=hx.1
   have x1:=hx.2
   have hap:E cC ((o.take i).map fun i=>l.getD i.toNat [])++[[.sl 1 (E cI (l.getD o[i].toNat []))]]=E cC ((o.take (i+1)).map fun i=>l.getD i.toNat []):=by
    rw[take_succ hlt,List.map_append,E_append];rfl
   have hal:(E cC ((o.take i).map fun i=>l.getD i.toNat [])).length=i:=by rw[E_len];simp;omega
   repeat' first|simp -dsimp only[go_sem,cI_get hlt,hw,hap,hal,gx,cC,cFd]|apply Br.mk<;>intro h<;>try simp -dsimp only[h]|refine CallK.c (by first|exact NC) ?_|refine aC ?_|fail
   all_goals first|omega|(exact nx (i+1,()) trivial (h2:=by simp[Vs.LeL,Vs.look,Vs.hlook,Vs.sput,Vs.sputs,Vs.hset,Vs.hputs,hap]))
  ·have hge:i=o.length:=by
    have:¬i<o.length:=Dq
    omega
   subst hge
   simp -dsimp only[go_sem,cC,cFd]
   have htk:(E cC ((o.take o.length).map fun i=>l.getD i.toNat [])).take o.length=E cC (o.map fun i=>l.getD i.toNat []):=by
    rw[List.take_of_length_le (Nat.le_refl o.length)];exact List.take_of_length_le (by rw[E_len];simp)
   first|exact⟨⟨_,_,rfl,rfl⟩,fun h=>h rfl⟩|(rw[htk];exact⟨⟨_,_,rfl,rfl⟩,fun h=>h rfl⟩)|(simp[htk];done)
end
end Go.Proofs.YthfnpdhpefialaaGreat
