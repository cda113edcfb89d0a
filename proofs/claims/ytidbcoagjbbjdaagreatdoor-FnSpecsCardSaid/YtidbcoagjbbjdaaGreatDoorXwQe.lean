/- Codes of collating; the first step down. -/
import Derived.Test.YtidbcoagjbbjdaaGreatDoorVsD
import Derived.Test.YtidbcoagjbbjdaaGreatDoorXwQd
import Derived.Test.YtidbcoagjbbjdaaGreatDoorXwC
set_option linter.all false
set_option maxHeartbeats 8000000
namespace Go.Proofs.YtidbcoagjbbjdaaGreatDoor
open Go.Vs
variable [Vs.Tab 0 Vs.powP]
attribute [local irreducible] Vs.Fn chOK areCh chTo chAt l03 chB rk cd3 chI stp stpTo
def smallK (l : List (List (List Int))) : Prop := l.length ≤ 1048576 ∧ ∀ d, d ∈ l → smallC d
def colT (fr to : Int) (ts : List ByteArray) (ls : List (List (List Int))) : Int :=
 if ls.all deckB then (if ls.all (fun d => fldB fr to (widB d)) then (if ts.all (fun t => (t.size : Int) == W (to - fr)) then (if ts.all areCh then (if ls.all (allCh fr to) then 0 else 8) else 7) else 2) else 2) else 1
attribute [local go_sem] cC List.replicate_succ List.replicate_zero List.flatten_cons List.flatten_nil List.cons_append List.nil_append List.set_cons_zero List.set_cons_succ List.length_cons List.length_nil List.length_set in
theorem collateT (fr to : Int) (ls : List (List (List Int))) (hk : smallK ls) (ts : List ByteArray) (hts : ts.length ≤ 1048576) (htz : ∀ t, t ∈ ts → t.size ≤ 1048576) : Fz F.i_collateCode [.agg (cFd fr to), .v (.bool true), .sl 1 (E cSt ts), .sl 1 (E cD ls)] (.v (.int .i64 (colT fr to ts ls))) := by
 refine fn0 Cd.i_collateCode_k fun X => ?_
 simp -dsimp only [go_sem, cFd, cD]
 refine LoopK.at dM (X := { zz : Nat × (Unit) // zz.1 ≤ ls.length ∧ (ls.take zz.1).all (deckB) = true }) (fun zz => [(21, .v (.int .i64 zz.1.1))]) (fun zz => []) (fun zz => ls.length - zz.1.1) ⟨(0, ()), by omega, by simp⟩ ?_ ?_
 ·exact le0
 ·rintro ⟨⟨i, _⟩, hi, hg⟩
  dsimp only at hi hg
  simp -dsimp only [go_sem, cFd, cD]
  refine Br.mk (fun hc => ?_) fun hc => ?_
  ·have hlt : i < ls.length := Dq
   have hw := wrap_succ hlt hk.1
   have hsm := hk.2 _ (List.getElem_mem hlt)
   have hm : (E cD ls).getD i [] = [.sl 1 (E cC ls[i])] := E_get hlt
   cases hb : deckB ls[i]
   ·have hall : ls.all (deckB) = false := not_all (p := deckB) hlt hb
    repeat' first|simp -dsimp only [go_sem, hw, hm, hb, cFd, cD]|apply Br.mk<;>intro h<;>try simp -dsimp only[h]|refine CallK.c (by first|exact validDeck _ hsm.2 hsm.1) ?_|refine aC ?_|fail
    all_goals first | omega | (refine ret_eq ?_; simp [colT, hall]; done) | (simp [colT, hall]; done)
   ·simp -dsimp only [go_sem, hw, hm, hb, cFd, cD]
    repeat' first|simp -dsimp only [go_sem, hw, hm, hb, cFd, cD]|apply Br.mk<;>intro h<;>try simp -dsimp only[h]|refine CallK.c (by first|exact validDeck _ hsm.2 hsm.1) ?_|refine aC ?_|fail
    all_goals first | omega | (exact nx (i + 1, ()) (take_succ_all (p := deckB) hlt hg hb))
  ·have hge : i = ls.length := by
    have : ¬ i < ls.length := Dq
    omega
   subst hge
   simp -dsimp only [go_sem, cFd, cD]
   have a1 : ls.all (deckB) = true := by simpa using hg
   clear hg hi hc
   refine ⟨?_, by simp⟩
   refine LoopK.at dM (X := { zz : Nat × (Unit) // zz.1 ≤ ls.length ∧ (ls.take zz.1).all ((fun d => fldB fr to (widB d))) = true }) (fun zz => [(33, .v (.int .i64 zz.1.1))]) (fun zz => []) (fun zz => ls.length - zz.1.1) ⟨(0, ()), by omega, by simp⟩ ?_ ?_
   ·exact le0
   ·rintro ⟨⟨i, _⟩, hi, hg⟩
    dsimp only at hi hg
    simp -dsimp only [go_sem, cFd, cD]
    refine Br.mk (fun hc => ?_) fun hc => ?_
    ·have hlt : i < ls.length := Dq
     have hw := wrap_succ hlt hk.1
     have hsm := hk.2 _ (List.getElem_mem hlt)
     have hm : (E cD ls).getD i [] = [.sl 1 (E cC ls[i])] := E_get hlt
     cases hb : (fun d => fldB fr to (widB d)) ls[i]
     ·have hall : ls.all ((fun d => fldB fr to (widB d))) = false := not_all (p := (fun d => fldB fr to (widB d))) hlt hb
      repeat' first|simp -dsimp only [go_sem, hw, hm, hb, cFd, cD]|apply Br.mk<;>intro h<;>try simp -dsimp only[h]|refine CallK.c (by first|exact deckColumns _|exact isField fr to _) ?_|refine aC ?_|fail
      all_goals first | omega | (refine ret_eq ?_; simp [colT, hall, a1]; done) | (simp [colT, hall, a1]; done)
     ·simp -dsimp only [go_sem, hw, hm, hb, cFd, cD]
      repeat' first|simp -dsimp only [go_sem, hw, hm, hb, cFd, cD]|apply Br.mk<;>intro h<;>try simp -dsimp only[h]|refine CallK.c (by first|exact deckColumns _|exact isField fr to _) ?_|refine aC ?_|fail
      all_goals first | omega | (exact nx (i + 1, ()) (take_succ_all (p := (fun d => fldB fr to (widB d))) hlt hg hb))
    ·have hge : i = ls.length := by
      have : ¬ i < ls.length := Dq
      omega
     subst hge
     simp -dsimp only [go_sem, cFd, cD]
     have a2 : ls.all ((fun d => fldB fr to (widB d))) = true := by simpa using hg
     clear hg hi hc
     refine ⟨?_, by simp⟩
     refine LoopK.at dM (X := { zz : Nat × (Unit) // zz.1 ≤ ts.length ∧ (ts.take zz.1).all ((fun t : ByteArray => (t.size : Int) == W (to - fr))) = true }) (fun zz => [(45, .v (.int .i64 zz.1.1))]) (fun zz => []) (fun zz => ts.length - zz.1.1) ⟨(0, ()), by omega, by simp⟩ ?_ ?_
     ·exact le0
     ·rintro ⟨⟨i, _⟩, hi, hg⟩
      dsimp only at hi hg
      simp -dsimp only [go_sem, cFd, cD]
      refine Br.mk (fun hc => ?_) fun hc => ?_
      ·have hlt : i < ts.length := Dq
       have hw := wrap_succ hlt hts
       have hm : (E cSt ts).getD i [] = [.v (.string ts[i])] := E_get hlt
       have hne : ((ts[i].size : Int) != IntKind.i64.wrap (to - fr)) = !((ts[i].size : Int) == W (to - fr)) := rfl
       cases hb : (fun t : ByteArray => (t.size : Int) == W (to - fr)) ts[i]
       ·have hall : ts.all ((fun t : ByteArray => (t.size : Int) == W (to - fr))) = false := not_all (p := (fun t : ByteArray => (t.size : Int) == W (to - fr))) hlt hb
        repeat' first|simp -dsimp only [go_sem, hw, hm, hb, hne, Bool.not_true, Bool.not_false, cFd, cD]|apply Br.mk<;>intro h<;>try simp -dsimp only[h]|refine aC ?_|fail
        all_goals first | omega | (refine ret_eq ?_; simp [colT, hall, a1, a2]; done) | (simp [colT, hall, a1, a2]; done)
       ·simp -dsimp only [go_sem, hw, hm, hb, hne, Bool.not_true, Bool.not_false, cFd, cD]
        repeat' first|simp -dsimp only [go_sem, hw, hm, hb, hne, Bool.not_true, Bool.not_false, cFd, cD]|apply Br.mk<;>intro h<;>try simp -dsimp only[h]|refine aC ?_|fail
        all_goals first | omega | (exact nx (i + 1, ()) (take_succ_all (p := (fun t : ByteArray => (t.size : Int) == W (to - fr))) hlt hg hb))
      ·have hge : i = ts.length := by
        have : ¬ i < ts.length := Dq
        omega
       subst hge
       simp -dsimp only [go_sem, cFd, cD]
       have a3 : ts.all ((fun t : ByteArray => (t.size : Int) == W (to - fr))) = true := by simpa using hg
       clear hg hi hc
       refine ⟨?_, by simp⟩
       refine LoopK.at dM (X := { zz : Nat × (Unit) // zz.1 ≤ ts.length ∧ (ts.take zz.1).all (areCh) = true }) (fun zz => [(60, .v (.int .i64 zz.1.1))]) (fun zz => []) (fun zz => ts.length - zz.1.1) ⟨(0, ()), by omega, by simp⟩ ?_ ?_
       ·exact le0
       ·rintro ⟨⟨i, _⟩, hi, hg⟩
        dsimp only at hi hg
        simp -dsimp only [go_sem, cFd, cD]
        refine Br.mk (fun hc => ?_) fun hc => ?_
        ·have hlt : i < ts.length := Dq
         have hw := wrap_succ hlt hts
         have hm : (E cSt ts).getD i [] = [.v (.string ts[i])] := E_get hlt
         cases hb : areCh ts[i]
         ·have hall : ts.all (areCh) = false := not_all (p := areCh) hlt hb
          repeat' first|simp -dsimp only [go_sem, hw, hm, hb, cFd, cD]|apply Br.mk<;>intro h<;>try simp -dsimp only[h]|refine CallK.c (by first|exact areCharacters _ (htz _ (List.getElem_mem hlt))) ?_|refine aC ?_|fail
          all_goals first | omega | (refine ret_eq ?_; simp [colT, hall, a1, a2, a3]; done) | (simp [colT, hall, a1, a2, a3]; done)
         ·simp -dsimp only [go_sem, hw, hm, hb, cFd, cD]
          repeat' first|simp -dsimp only [go_sem, hw, hm, hb, cFd, cD]|apply Br.mk<;>intro h<;>try simp -dsimp only[h]|refine CallK.c (by first|exact areCharacters _ (htz _ (List.getElem_mem hlt))) ?_|refine aC ?_|fail
          all_goals first | omega | (exact nx (i + 1, ()) (take_succ_all (p := areCh) hlt hg hb))
        ·have hge : i = ts.length := by
          have : ¬ i < ts.length := Dq
          omega
         subst hge
         simp -dsimp only [go_sem, cFd, cD]
         have a4 : ts.all (areCh) = true := by simpa using hg
         clear hg hi hc
         refine ⟨?_, by simp⟩
         refine LoopK.at dM (X := { zz : Nat × (Unit) // zz.1 ≤ ls.length ∧ (ls.take zz.1).all ((allCh fr to)) = true }) (fun zz => [(70, .v (.int .i64 zz.1.1))]) (fun zz => []) (fun zz => ls.length - zz.1.1) ⟨(0, ()), by omega, by simp⟩ ?_ ?_
         ·exact le0
         ·rintro ⟨⟨i, _⟩, hi, hg⟩
          dsimp only at hi hg
          simp -dsimp only [go_sem, cFd, cD]
          refine Br.mk (fun hc => ?_) fun hc => ?_
          ·have hlt : i < ls.length := Dq
           have hw := wrap_succ hlt hk.1
           have hsm := hk.2 _ (List.getElem_mem hlt)
           have hm : (E cD ls).getD i [] = [.sl 1 (E cC ls[i])] := E_get hlt
           have hdk : deckB ls[i] = true := (List.all_eq_true.1 a1) _ (List.getElem_mem hlt)
           have hfk : fldB fr to (widB ls[i]) = true := (List.all_eq_true.1 a2) _ (List.getElem_mem hlt)
           have hof := okF_of hdk hfk
           cases hb : (allCh fr to) ls[i]
           ·have hall : ls.all ((allCh fr to)) = false := not_all (p := (allCh fr to)) hlt hb
            repeat' first|simp -dsimp only [go_sem, hw, hm, hb, cFd, cD]|apply Br.mk<;>intro h<;>try simp -dsimp only[h]|refine CallK.c (by first|exact haveField _ fr to hof hsm.1) ?_|refine aC ?_|fail
            all_goals first | omega | (refine ret_eq ?_; simp [colT, hall, a1, a2, a3, a4]; done) | (simp [colT, hall, a1, a2, a3, a4]; done)
           ·simp -dsimp only [go_sem, hw, hm, hb, cFd, cD]
            repeat' first|simp -dsimp only [go_sem, hw, hm, hb, cFd, cD]|apply Br.mk<;>intro h<;>try simp -dsimp only[h]|refine CallK.c (by first|exact haveField _ fr to hof hsm.1) ?_|refine aC ?_|fail
            all_goals first | omega | (exact nx (i + 1, ()) (take_succ_all (p := (allCh fr to)) hlt hg hb))
          ·have hge : i = ls.length := by
            have : ¬ i < ls.length := Dq
            omega
           subst hge
           simp -dsimp only [go_sem, cFd, cD]
           have a5 : ls.all (allCh fr to) = true := by simpa using hg
           simp [colT, a1, a2, a3, a4, a5]
end Go.Proofs.YtidbcoagjbbjdaaGreatDoor
